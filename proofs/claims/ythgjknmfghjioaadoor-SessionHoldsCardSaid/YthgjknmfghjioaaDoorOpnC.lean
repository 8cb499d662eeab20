/- Walks of layer 6 (open): the document's body of an OPEN. No conditions but sizes. -/
import Derived.Test.YthgjknmfghjioaaDoorProg
import Derived.WalkKit
import Derived.WalkSpells
import Derived.WalkLawsBesides
import Derived.Outline
import Derived.Deep.QuietTactic
import Derived.BigQuiet
import Derived.Handy
import Derived.Lib.Hide
import Derived.Test.YthgjknmfghjioaaDoorOpnB
namespace Go.Proofs.YthgjknmfghjioaaDoor
open Go.RowKit
set_option linter.unusedSimpArgs false
set_option linter.unusedVariables false
theorem capsOk_big {l : List Cap} {j : Nat} {L : List UInt8} (h : capsB (l.take j) = L) (h2 : 253 < L.length) : capsOk l = false := capsOk_long (j := j) (by rw [h]; exact h2)
theorem own_ne_u8 {w : World} {base g n c : Nat} {A : Option Addr} {l : List UInt8} {t : TypeId} {cs : Array Value} (h : OB w 5 base A n c l) (hg : Blk w g t cs) (hne : 5 ≠ t) : some g ≠ Value.ownBlock (.slice A n c) := (own_blk_ne h.2 hg hne).symm
set_option maxHeartbeats 4000000 in
set_option maxRecDepth 100000 in
theorem refPut06 (v a h : Int) (i : Nat) (hi : i < 4294967296) (A : Option Addr) (n c : Nat) (l : List Cap) (w : World) (hd : DL rCap 2 w (Lo w) A n l) (hn : n ≤ 100000) :
    Calls Tryd.prog 18 #[.agg #[.int .i64 v, .int .i64 a, .int .i64 h, .int .u32 i, .slice A n c]] w (RetOPut w ⟨v, a, h, i, l⟩) := by
  have HN := Lib.hid hd.len
  have HNO := Lib.hid (fun wx (hwx : Below w.heap.size w wx) hok => RetOPut.no (w := w) (w' := wx) (o := ⟨v, a, h, i, l⟩) (putOk_no (.inl hok)) hwx)
  obtain ⟨W, hW, hX, b0⟩ := box1c w #[.int .i64 v, .int .i64 a, .int .i64 h, .int .u32 i, .slice A n c] 66
  have hgl := hX.lt
  go_enter Tryd.func18, Tryd.ntmps18
  go_wp2_with fail
  try rw [hW]
  clear hW
  go_loopw [4, 5] (fun u i wr => ∃ (j : Nat) (A1 : Option Addr) (n1 c1 : Nat), j ≤ n ∧ i = .int .i64 j ∧ u = .slice A1 n1 c1 ∧ OB wr 5 W.heap.size A1 n1 c1 (capsB (l.take j)) ∧ n1 ≤ 253 ∧ Below w.heap.size w wr ∧ Below W.heap.size W wr ∧ Hid (∀ (i : Nat) (c : Cap), i < j → l[i]? = some c → capOk c = true)) (fun _ i _ => n - (intOf i).toNat)
  case atStart => exact ⟨0, none, 0, 0, by omega, rfl, rfl, OB.nil_, by omega, b0, Below.refl _ _, Lib.hid fun i c h => by omega⟩
  case round =>
    obtain ⟨j, A1, n1, c1, hj, rfl, rfl, o1, hn1, b1, bW, hok⟩ := hrel
    have HL1 := Lib.hid o1.1
    have hX1 := hX.below bW hgl
    have hs0 := bW.size
    have hs1 := b1.size
    have hx4 := hX1.cell 4
    have hx1l := hX1.lt
    by_cases hlt : j < n
    · obtain ⟨x, hx⟩ := getC HN.out hlt
      have e2 : decide ((j : Int) < n) = true := decide_eq_true (by omega)
      obtain ⟨b, off, A', n', c', rfl, hb, k0, k1, hbf, hnc'⟩ := (hd.below rCap_ok b1).capAt hx
      obtain ⟨code, data⟩ := x
      have HX := Lib.hid hx
      have HLd := Lib.hid hbf.1
      have HS := Lib.hid (capsB_snoc hx)
      have HB := Lib.hid (fun h => capsOk_bad hx h)
      have HO := Lib.hid (show capOk (code, data) = decide (0 ≤ code ∧ code ≤ 255 ∧ n' ≤ 253) by unfold capOk; rw [← HLd.out])
      clear hx
      simp only at HLd HS k0 hbf
      by_cases hq0 : code < 0
      · have tq0 : decide (code < 0) = true := decide_eq_true hq0
        have HE := Lib.hid (fun wx hwx => HNO.out wx hwx (HB.out (by rw [HO.out]; exact decide_eq_false (by omega))))
        go_wp2_with fail
        go_ret2
        exact HE.out _ (b1.alloc hs1 _)
      have tq0 : decide (code < 0) = false := decide_eq_false hq0
      by_cases hq1 : 255 < code
      · have tq1 : decide (255 < code) = true := decide_eq_true hq1
        have HE := Lib.hid (fun wx hwx => HNO.out wx hwx (HB.out (by rw [HO.out]; exact decide_eq_false (by omega))))
        go_wp2_with fail
        go_ret2
        exact HE.out _ (b1.alloc hs1 _)
      have tq1 : decide (255 < code) = false := decide_eq_false hq1
      by_cases hq2 : 253 < (n' : Int)
      · have tq2 : decide (253 < (n' : Int)) = true := decide_eq_true hq2
        have HE := Lib.hid (fun wx hwx => HNO.out wx hwx (HB.out (by rw [HO.out]; exact decide_eq_false (by omega))))
        go_wp2_with fail
        go_ret2
        exact HE.out _ (b1.alloc hs1 _)
      have tq2 : decide (253 < (n' : Int)) = false := decide_eq_false hq2
      have hc0 : 0 ≤ code := by omega
      have hc1 : code ≤ 255 := by omega
      have hn' : (n' : Int) ≤ 253 := by omega
      have HOK := Lib.hid (show capOk (code, data) = true by rw [HO.out]; exact decide_eq_true (by omega))
      have w1 : IntKind.u8.wrap code = code := u8_of hc0 hc1
      have w2 : IntKind.u8.wrap (n' : Int) = n' := u8_of (by omega) (by omega)
      obtain ⟨L, hL⟩ : ∃ L, capsB (l.take j) = L := ⟨_, rfl⟩
      rw [hL] at o1 HS HL1
      clear hL
      have HLs := Lib.hid (show L.length ≤ 253 by rw [← HL1.out]; exact hn1)
      have HLd2 := Lib.hid (show data.length ≤ 253 by rw [← HLd.out]; omega)
      obtain ⟨L3, hL3⟩ : ∃ L3, capsB (l.take (j + 1)) = L3 := ⟨_, rfl⟩
      rw [hL3] at HS
      have HL3 := Lib.hid hL3
      clear hL3
      have hcb := Blk.new wr 85 #[.int .i64 code, .slice A' n' c']
      by_cases hbig : 253 < L3.length
      · have HBG := Lib.hid hbig
        clear hbig
        go_wp2_with (first
          | (at_builtin; refine wpl_app rfl (.tmp 34) (.tmp 38) _ rfl 5 Tryd.underlying34 u8info W.heap.size A1 n1 c1 L (by rfl) ((o1.alloc _).alloc _) (wr.heap.size + 1 + 1) (some ⟨wr.heap.size + 1, 0, none⟩) 1 1 [ub code] (by rfl) (BS.vals (wr.alloc _) 5 [code] (by intro y hy; simp at hy; omega) (by simp)) (by have := HLs.out; simp; omega) (by simp; omega) ?_; intro A2 n2 c2 w2 o2 b2 g2; have bb := (((Below.refl W.heap.size wr).alloc hs0 (.cells #[.int .i64 code, .slice A' n' c'] 85)).alloc (by simp; omega) (.cells #[.int .u8 code] 5)).trans b2; have hcB := (hcb.alloc (.cells #[.int .u8 code] 5)).grown g2 (by intro e; have := (o1.2.lt _ e.symm).2; omega); have k2 := hcB.cell 1; have hs2 := bb.size; have hc2l := hcB.lt)
          | (at_builtin; refine wpl_app rfl (.tmp 40) (.tmp 45) _ rfl 5 Tryd.underlying34 u8info W.heap.size A2 n2 c2 _ (by rfl) (o2.alloc _) (w2.heap.size + 1) (some ⟨w2.heap.size, 0, none⟩) 1 1 [ub (n' : Int)] (by rfl) (BS.vals w2 5 [(n' : Int)] (by intro y hy; simp at hy; omega) rfl) (by have := HLs.out; simp; omega) (by simp; omega) ?_; intro A3 n3 c3 w3 o3 b3 g3; have bb3 := (bb.alloc (by omega) (.cells #[.int .u8 n'] 5)).trans b3; have hcB3 := (hcB.alloc (.cells #[.int .u8 n'] 5)).grown g3 (own_ne_u8 (o2.alloc _) (hcB.alloc (.cells #[.int .u8 n'] 5)) (by decide)); have k3 := hcB3.cell 1; have hs3 := bb3.size)
          | (at_builtin; refine wpl_app rfl (.tmp 47) (.tmp 49) _ rfl 5 Tryd.underlying34 u8info W.heap.size A3 n3 c3 _ (by rfl) o3 w.heap.size A' n' c' data (by rfl) ((hbf.keep (Kp.lt (bb3.mono (Nat.le_of_lt hgl)))).lt) (by have := HLs.out; have := HLd2.out; simp; omega) (by omega) ?_; intro A4 n4 c4 w4 o4 b4 _; have bb4 := bb3.trans b4; have H4 := Lib.hid (show L ++ [ub code] ++ [ub (n' : Int)] ++ data = L3 by rw [HS.out, ← HLd.out]; simp); rw [H4.out] at o4; have HN4 := Lib.hid o4.1; have t4 : decide (253 < (n4 : Int)) = true := decide_eq_true (by have := HBG.out; have := HN4.out; omega)))
        go_ret2
        exact HNO.out _ (b1.trans (bb4.mono (Nat.le_of_lt hgl))) (capsOk_big HL3.out HBG.out)
      · have HBG := Lib.hid hbig
        clear hbig
        go_wp2_with (first
          | (at_builtin; refine wpl_app rfl (.tmp 34) (.tmp 38) _ rfl 5 Tryd.underlying34 u8info W.heap.size A1 n1 c1 L (by rfl) ((o1.alloc _).alloc _) (wr.heap.size + 1 + 1) (some ⟨wr.heap.size + 1, 0, none⟩) 1 1 [ub code] (by rfl) (BS.vals (wr.alloc _) 5 [code] (by intro y hy; simp at hy; omega) (by simp)) (by have := HLs.out; simp; omega) (by simp; omega) ?_; intro A2 n2 c2 w2 o2 b2 g2; have bb := (((Below.refl W.heap.size wr).alloc hs0 (.cells #[.int .i64 code, .slice A' n' c'] 85)).alloc (by simp; omega) (.cells #[.int .u8 code] 5)).trans b2; have hcB := (hcb.alloc (.cells #[.int .u8 code] 5)).grown g2 (by intro e; have := (o1.2.lt _ e.symm).2; omega); have k2 := hcB.cell 1; have hs2 := bb.size; have hc2l := hcB.lt)
          | (at_builtin; refine wpl_app rfl (.tmp 40) (.tmp 45) _ rfl 5 Tryd.underlying34 u8info W.heap.size A2 n2 c2 _ (by rfl) (o2.alloc _) (w2.heap.size + 1) (some ⟨w2.heap.size, 0, none⟩) 1 1 [ub (n' : Int)] (by rfl) (BS.vals w2 5 [(n' : Int)] (by intro y hy; simp at hy; omega) rfl) (by have := HLs.out; simp; omega) (by simp; omega) ?_; intro A3 n3 c3 w3 o3 b3 g3; have bb3 := (bb.alloc (by omega) (.cells #[.int .u8 n'] 5)).trans b3; have hcB3 := (hcB.alloc (.cells #[.int .u8 n'] 5)).grown g3 (own_ne_u8 (o2.alloc _) (hcB.alloc (.cells #[.int .u8 n'] 5)) (by decide)); have k3 := hcB3.cell 1; have hs3 := bb3.size)
          | (at_builtin; refine wpl_app rfl (.tmp 47) (.tmp 49) _ rfl 5 Tryd.underlying34 u8info W.heap.size A3 n3 c3 _ (by rfl) o3 w.heap.size A' n' c' data (by rfl) ((hbf.keep (Kp.lt (bb3.mono (Nat.le_of_lt hgl)))).lt) (by have := HLs.out; have := HLd2.out; simp; omega) (by omega) ?_; intro A4 n4 c4 w4 o4 b4 _; have bb4 := bb3.trans b4; have H4 := Lib.hid (show L ++ [ub code] ++ [ub (n' : Int)] ++ data = L3 by rw [HS.out, ← HLd.out]; simp); rw [H4.out] at o4; have HN4 := Lib.hid o4.1; have t4 : decide (253 < (n4 : Int)) = false := decide_eq_false (by have := HBG.out; have := HN4.out; omega)))
        go_roundw
        case rel => exact ⟨j + 1, A4, n4, c4, by omega, by go_num, rfl, by rw [HL3.out]; exact o4, by have := HBG.out; have := HN4.out; omega, b1.trans (bb4.mono (Nat.le_of_lt hgl)), bW.trans bb4, Lib.hid fun i c h1 h2 => by
          rcases Nat.lt_or_ge i j with h3 | h3
          · exact hok.out i c h3 h2
          · rw [show i = j by omega, HX.out] at h2
            injection h2 with h2
            subst h2
            exact HOK.out⟩
        case measure => simp [intOf]; omega
    · have e2 : decide ((j : Int) < n) = false := decide_eq_false (by omega)
      have hj' : j = n := by omega
      have HT := Lib.hid (show capsB (l.take j) = capsB l by rw [List.take_of_length_le (by have := HN.out; omega)])
      rw [HT.out] at o1 HL1
      have HK := Lib.hid (show capsOk l = true by
        rw [capsOk_all (fun i c h => hok.out i c (by have := HN.out; have := (List.getElem?_eq_some_iff.1 h).1; omega) h), ← HL1.out]
        exact decide_eq_true hn1)
      obtain ⟨L, hL⟩ : ∃ L, capsB l = L := ⟨_, rfl⟩
      rw [hL] at o1 HL1
      have HL := Lib.hid hL
      clear hL hj' hx4
      have c_hX0 := hX1.cell 0
      have c_hX1 := hX1.cell 1
      have c_hX2 := hX1.cell 2
      have c_hX3 := hX1.cell 3
      have c_hX4 := hX1.cell 4
      by_cases hq0 : v < 0
      · have tq0 : decide (v < 0) = true := decide_eq_true hq0
        have HF := Lib.hid (RetOPut.no (w := w) (o := ⟨v, a, h, i, l⟩) (putOk_no (.inr (by simp only; omega))) b1)
        go_wp2_with fail
        go_ret2
        exact HF.out
      have tq0 : decide (v < 0) = false := decide_eq_false hq0
      by_cases hq1 : 255 < v
      · have tq1 : decide (255 < v) = true := decide_eq_true hq1
        have HF := Lib.hid (RetOPut.no (w := w) (o := ⟨v, a, h, i, l⟩) (putOk_no (.inr (by simp only; omega))) b1)
        go_wp2_with fail
        go_ret2
        exact HF.out
      have tq1 : decide (255 < v) = false := decide_eq_false hq1
      by_cases hq2 : a < 0
      · have tq2 : decide (a < 0) = true := decide_eq_true hq2
        have HF := Lib.hid (RetOPut.no (w := w) (o := ⟨v, a, h, i, l⟩) (putOk_no (.inr (by simp only; omega))) b1)
        go_wp2_with fail
        go_ret2
        exact HF.out
      have tq2 : decide (a < 0) = false := decide_eq_false hq2
      by_cases hq3 : 65535 < a
      · have tq3 : decide (65535 < a) = true := decide_eq_true hq3
        have HF := Lib.hid (RetOPut.no (w := w) (o := ⟨v, a, h, i, l⟩) (putOk_no (.inr (by simp only; omega))) b1)
        go_wp2_with fail
        go_ret2
        exact HF.out
      have tq3 : decide (65535 < a) = false := decide_eq_false hq3
      by_cases hq4 : h < 0
      · have tq4 : decide (h < 0) = true := decide_eq_true hq4
        have HF := Lib.hid (RetOPut.no (w := w) (o := ⟨v, a, h, i, l⟩) (putOk_no (.inr (by simp only; omega))) b1)
        go_wp2_with fail
        go_ret2
        exact HF.out
      have tq4 : decide (h < 0) = false := decide_eq_false hq4
      by_cases hq5 : 65535 < h
      · have tq5 : decide (65535 < h) = true := decide_eq_true hq5
        have HF := Lib.hid (RetOPut.no (w := w) (o := ⟨v, a, h, i, l⟩) (putOk_no (.inr (by simp only; omega))) b1)
        go_wp2_with fail
        go_ret2
        exact HF.out
      have tq5 : decide (65535 < h) = false := decide_eq_false hq5
      have HY := Lib.hid (putOk_yes (o := ⟨v, a, h, i, l⟩) HK.out (by simp only; omega))
      have hv0 : 0 ≤ v := by omega
      have hv1 : v ≤ 255 := by omega
      have wv := u8_of hv0 hv1
      go_wp2_with fail
      have V1 := BS.vals wr 5 [v] (by intro y hy; simp at hy; subst hy; omega) rfl
      obtain ⟨w2, hw2, hU, b2⟩ := box1c wr #[.int .u8 v] 5
      rw [show wr.alloc (.cells (([v] : List Int).map (Value.int .u8)).toArray 5) = w2 from hw2] at V1
      clear c_hX0 c_hX1 c_hX2 c_hX3 c_hX4
      have b02 := btr b1 b2 b1.size
      have hX_2 := hX1.below b2 hX1.lt
      have o1_2 := o1.below b2
      have c_hX0 := hX_2.cell 0
      have c_hX1 := hX_2.cell 1
      have c_hX2 := hX_2.cell 2
      have c_hX3 := hX_2.cell 3
      have c_hX4 := hX_2.cell 4
      rw [hw2]
      clear hw2
      refine (ref01Put16 _ 1 1 [ub v] a _ (V1.more (by have := hU.lt; exact this)) (by simp)).mono ?_
      rintro _ w3 ⟨A3, n3, c3, rfl, o3, b3⟩
      clear c_hX0 c_hX1 c_hX2 c_hX3 c_hX4
      have b03 := btr b02 b3 b02.size
      have hX_3 := hX_2.below b3 hX_2.lt
      clear hX_2
      have o1_3 := o1_2.below b3
      clear o1_2
      have c_hX0 := hX_3.cell 0
      have c_hX1 := hX_3.cell 1
      have c_hX2 := hX_3.cell 2
      have c_hX3 := hX_3.cell 3
      have c_hX4 := hX_3.cell 4
      go_wp2_with fail
      refine (ref01Put16 A3 n3 c3 ([ub v] ++ b16 a) h _ o3.bs (by simp [b16])).mono ?_
      rintro _ w4 ⟨A4, n4, c4, rfl, o4, b4⟩
      clear c_hX0 c_hX1 c_hX2 c_hX3 c_hX4
      have b04 := btr b03 b4 b03.size
      have hX_4 := hX_3.below b4 hX_3.lt
      clear hX_3
      have o1_4 := o1_3.below b4
      clear o1_3
      have o3_4 := o3.below b4
      have c_hX0 := hX_4.cell 0
      have c_hX1 := hX_4.cell 1
      have c_hX2 := hX_4.cell 2
      have c_hX3 := hX_4.cell 3
      have c_hX4 := hX_4.cell 4
      have V4 := o1_4.bs
      go_wp2_with fail
      refine (ref01Put32 A4 n4 c4 ([ub v] ++ b16 a ++ b16 h) i _ o4.bs (by simp [b16]) (by omega) (by omega)).mono ?_
      rintro _ w5 ⟨A5, n5, c5, rfl, o5, b5⟩
      clear c_hX0 c_hX1 c_hX2 c_hX3 c_hX4
      have b05 := btr b04 b5 b04.size
      have hX_5 := hX_4.below b5 hX_4.lt
      clear hX_4
      have o1_5 := o1_4.below b5
      clear o1_4
      have o4_5 := o4.below b5
      have c_hX0 := hX_5.cell 0
      have c_hX1 := hX_5.cell 1
      have c_hX2 := hX_5.cell 2
      have c_hX3 := hX_5.cell 3
      have c_hX4 := hX_5.cell 4
      have V5 := V4.below b5
      have hs4 := b04.size
      have hs45 := b5.size
      have hs5 := b05.size
      have HD := Lib.hid (show ([ub v] ++ b16 a ++ b16 h ++ b32 (i : Int)).length ≤ 9 by simp [b16, b32])
      have HLL := Lib.hid (show L.length ≤ 253 by rw [← HL1.out]; exact hn1)
      obtain ⟨D, hD⟩ : ∃ D, [ub v] ++ b16 a ++ b16 h ++ b32 (i : Int) = D := ⟨_, rfl⟩
      rw [hD] at o5 HD
      have HDD := Lib.hid hD
      clear hD
      by_cases h0 : n1 = 0
      · subst h0
        have HE := Lib.hid (show D ++ [ub 0] = putB ⟨v, a, h, i, l⟩ by
          have e : capsB l = [] := by rw [HL.out]; exact List.eq_nil_of_length_eq_zero HL1.out.symm
          rw [← HDD.out, putB, e, putTail_nil]; rfl)
        go_wp2_with (at_builtin; refine wpl_app rfl (.tmp 121) (.tmp 122) _ rfl 5 Tryd.underlying34 u8info w4.heap.size A5 n5 c5 D (by rfl) (o5.alloc _) (w5.heap.size + 1) (some ⟨w5.heap.size, 0, none⟩) 1 1 [ub 0] (by rfl) (BS.vals w5 5 [0] (by intro y hy; simp at hy; omega) rfl) (by have := HD.out; simp; omega) (by simp; omega) ?_; intro A6 n6 c6 w6 o6 b6 _)
        go_ret2
        exact RetOPut.yes HY.out HE.out (o6.low hs4) ((b05.alloc hs5 _).trans (b6.mono hs4))
      · have t0 : decide (0 < (n1 : Int)) = true := decide_eq_true (by omega)
        have w1' : IntKind.u8.wrap ((n1 : Int) + 2) = n1 + 2 := u8_of (by omega) (by omega)
        have w2' : IntKind.u8.wrap (n1 : Int) = n1 := u8_of (by omega) (by omega)
        have HE := Lib.hid (show D ++ [ub ((n1 : Int) + 2)] ++ [ub 2] ++ [ub (n1 : Int)] ++ L = putB ⟨v, a, h, i, l⟩ by
          have e : capsB l ≠ [] := fun e => h0 (by rw [HL1.out, ← HL.out, e]; rfl)
          rw [← HDD.out, putB, putTail, if_neg e, HL.out, ← HL1.out]
          simp only [List.append_assoc]
          rfl)
        have h3 : (n1 : Int) ≤ 253 := by omega
        go_wp2_with (first
          | (at_builtin; refine wpl_app rfl (.tmp 101) (.tmp 106) _ rfl 5 Tryd.underlying34 u8info w4.heap.size A5 n5 c5 D (by rfl) (o5.alloc _) (w5.heap.size + 1) (some ⟨w5.heap.size, 0, none⟩) 1 1 [ub ((n1 : Int) + 2)] (by rfl) (BS.vals w5 5 [(n1 : Int) + 2] (by intro y hy; simp at hy; omega) rfl) (by have := HD.out; simp; omega) (by simp; omega) ?_; intro A6 n6 c6 w6 o6 b6 _; have V6 := (V5.alloc hs45 (.cells #[.int .u8 ((n1 : Int) + 2)] 5)).below b6; have B6 := (b05.alloc hs5 (.cells #[.int .u8 ((n1 : Int) + 2)] 5)).trans (b6.mono hs4); have hs46 : w4.heap.size ≤ w6.heap.size := by have := b6.size; simp at this; omega)
          | (at_builtin; refine wpl_app rfl (.tmp 108) (.tmp 109) _ rfl 5 Tryd.underlying34 u8info w4.heap.size A6 n6 c6 _ (by rfl) (o6.alloc _) (w6.heap.size + 1) (some ⟨w6.heap.size, 0, none⟩) 1 1 [ub 2] (by rfl) (BS.vals w6 5 [2] (by intro y hy; simp at hy; omega) rfl) (by have := HD.out; simp; omega) (by simp; omega) ?_; intro A7 n7 c7 w7 o7 b7 _; have V7 := (V6.alloc hs46 (.cells #[.int .u8 2] 5)).below b7; have B7 := (B6.alloc B6.size (.cells #[.int .u8 2] 5)).trans (b7.mono hs4); have hs47 : w4.heap.size ≤ w7.heap.size := by have := b7.size; simp at this; omega)
          | (at_builtin; refine wpl_app rfl (.tmp 111) (.tmp 115) _ rfl 5 Tryd.underlying34 u8info w4.heap.size A7 n7 c7 _ (by rfl) (o7.alloc _) (w7.heap.size + 1) (some ⟨w7.heap.size, 0, none⟩) 1 1 [ub (n1 : Int)] (by rfl) (BS.vals w7 5 [(n1 : Int)] (by intro y hy; simp at hy; omega) rfl) (by have := HD.out; simp; omega) (by simp; omega) ?_; intro A8 n8 c8 w8 o8 b8 _; have V8 := (V7.alloc hs47 (.cells #[.int .u8 n1] 5)).below b8; have B8 := (B7.alloc B7.size (.cells #[.int .u8 n1] 5)).trans (b8.mono hs4); have hs48 : w4.heap.size ≤ w8.heap.size := by have := b8.size; simp at this; omega)
          | (at_builtin; refine wpl_app rfl (.tmp 117) (.tmp 118) _ rfl 5 Tryd.underlying34 u8info w4.heap.size A8 n8 c8 _ (by rfl) o8 w4.heap.size A1 n1 c1 L (by rfl) V8 (by have := HD.out; have := HLL.out; simp; omega) hs48 ?_; intro A9 n9 c9 w9 o9 b9 _))
        go_ret2
        exact RetOPut.yes HY.out HE.out (o9.low hs4) (B8.trans (b9.mono hs4))
end Go.Proofs.YthgjknmfghjioaaDoor
