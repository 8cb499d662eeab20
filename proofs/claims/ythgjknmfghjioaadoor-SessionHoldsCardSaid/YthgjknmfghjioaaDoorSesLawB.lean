/- The statement SessionHolds: its walk. Conditions: the tables. -/
import Derived.Test.YthgjknmfghjioaaDoorProg
import Derived.WalkKit
import Derived.WalkSpells
import Derived.WalkLawsBesides
import Derived.Outline
import Derived.Deep.QuietTactic
import Derived.BigQuiet
import Derived.Handy
import Derived.Lib.Hide
import Derived.Deep.DeepCutAuto
import Derived.Deep.CutBlock
import Derived.Deep.LoopGhost
import Derived.Test.YthgjknmfghjioaaDoorSesQ
import Derived.Test.YthgjknmfghjioaaDoorFsmC
namespace Go.Proofs.YthgjknmfghjioaaDoor
open Go.RowKit
set_option linter.unusedSimpArgs false
set_option linter.unusedVariables false
/-- The other side's time. -/
def hldN (m : Nat) : Nat := if m % 7 = 0 then 0 else m % 60 + 3
theorem hldN_in (m : Nat) : hldN m = 0 ∨ 3 ≤ hldN m ∧ hldN m ≤ 62 := by unfold hldN; split <;> omega
set_option maxHeartbeats 8000000 in
set_option maxRecDepth 100000 in
theorem lawSessionHolds (w : World) (a i x : Nat) (ho : Int) (wa : a < 4294967296) (wi : i < 4294967296) (_ : (Lit.int .i64 ho).wf = true) (pa : Nat) (pd pl : Int) (Ai : Option Addr) (ni ci : Nat) (Ao : Option Addr) (no co : Nat) (wp : pa < 4294967296) (h : Int) (wh : (Lit.int .u8 h).wf = true) (hlt : LeaTab w) (ht : FsmTab w) :
    Calls Tryd.prog 3 #[.agg #[.int .u32 a, .int .u32 i, .int .u32 x, .int .i64 ho], .agg #[.int .u32 pa, .int .u32 pd, .int .i64 pl, .slice Ai ni ci, .slice Ao no co], .int .u8 h] w fun en w' => en = .returned (.bool true) ∧ Below w.heap.size w w' := by
  have hh : 0 ≤ h ∧ h ≤ 255 := by simpa [Lit.wf, IntKind.min, IntKind.max, IntKind.signed, IntKind.bits] using wh
  obtain ⟨m, rfl⟩ := Int.eq_ofNat_of_zero_le hh.1
  clear wh
  have HM := Lib.hid (show m ≤ 255 by omega)
  obtain ⟨W, hW, hX, hY, b0⟩ := boxes2 w #[.int .u32 a, .int .u32 i, .int .u32 x, .int .i64 ho] #[.int .u32 pa, .int .u32 pd, .int .i64 pl, .slice Ai ni ci, .slice Ao no co] 24 27
  have HW := Lib.hid hW
  clear hW
  obtain ⟨xx, hx⟩ : ∃ xx, w.heap.size = xx := ⟨_, rfl⟩
  rw [hx] at hX hY
  have HX := Lib.hid hx
  have hwx : w.heap.size ≤ xx := Nat.le_of_eq hx
  clear hx
  have x3 : W.cell? ⟨xx, 3, none⟩ = some (.int .i64 ho) := hX.cell 3
  have f3 := hX.frozen 3
  clear hh
  go_enter Tryd.func3, Tryd.ntmps3
  go_upto_region 1 with fail
  rw [HW.out]
  rw [HX.out]
  go_upto_region 3 with fail
  obtain ⟨W2, hW2⟩ : ∃ y, W.setCell ⟨xx, 3, none⟩ (.int .i64 1000) = y := ⟨_, rfl⟩
  have hX2 : Blk W2 xx 24 #[.int .u32 a, .int .u32 i, .int .u32 x, .int .i64 1000] := by
    have := hX.set_ 3 (.int .i64 1000)
    rw [hW2] at this
    exact this
  have hY2 : Blk W2 (xx + 1) 27 #[.int .u32 pa, .int .u32 pd, .int .i64 pl, .slice Ai ni ci, .slice Ao no co] := by
    have := hY.far (p := ⟨xx, 3, none⟩) (by show xx + 1 ≠ xx; omega) (.int .i64 1000)
    rw [hW2] at this
    exact this
  have b02 : Below w.heap.size w W2 := by rw [← hW2]; exact b0.setCell (p := ⟨xx, 3, none⟩) hwx _
  rw [hW2]
  clear hW2 x3 f3 hX hY b0
  obtain ⟨N, hN⟩ : ∃ N, hldN m = N := ⟨_, rfl⟩
  have HN := Lib.hid hN
  have hNin : N = 0 ∨ 3 ≤ N ∧ N ≤ 62 := by rw [← hN]; exact hldN_in m
  have HNI := Lib.hid hNin
  clear hN hNin
  go_upto_if 22 with fail
  go_cut [7] (fun s7 wx => s7 = .int .i64 (N : Int) ∧ wx = W2)
  case first =>
    by_cases h7 : m % 7 = 0
    · have t7 : ((m : Int) % 7 == 0) = true := by
        have : (m : Int) % 7 = 0 := by omega
        simpa using this
      have HE := Lib.hid (show N = 0 by rw [← HN.out]; exact if_pos h7)
      clear h7
      go_wp2_with fail
      go_meet
      exact ⟨by rw [HE.out]; rfl, rfl⟩
    · have t7 : ((m : Int) % 7 == 0) = false := by
        have : ¬ (m : Int) % 7 = 0 := by omega
        simpa using this
      have HE := Lib.hid (show N = m % 60 + 3 by rw [← HN.out]; exact if_neg h7)
      clear h7
      go_wp2_with fail
      go_meet
      exact ⟨by rw [HE.out]; simp, rfl⟩
  case rest =>
    obtain ⟨rfl, hwc⟩ := hcut
    subst hwc
    obtain ⟨KS, hKS⟩ : ∃ KS : SesK, KS = ⟨a, i, x, 1000, pa, pd, pl, Ai, ni, ci, Ao, no, co, false⟩ := ⟨_, rfl⟩
    have hNh : holdO (N : Int) (mineH 1000) = (N : Int) ∧ 0 ≤ (N : Int) ∧ (N : Int) ≤ 65535 := by
      have := HNI.out
      refine ⟨?_, by omega, by omega⟩
      unfold holdO mineH
      repeat' split
      all_goals omega
    have HRISE : Hid (∀ z, FsmTab z → LeaTab z → Calls Tryd.prog 5 #[.agg #[.int .u32 a, .int .u32 i, .int .u32 x, .int .i64 1000], .agg #[.int .u32 pa, .int .u32 pd, .int .i64 pl, .slice Ai ni ci, .slice Ao no co], .int .i64 (N : Int)] z fun en w' => ∃ q, en = .returned (.tuple #[.pointer (some ⟨q, 0, none⟩), .bool true]) ∧ z.heap.size ≤ q ∧ Blk w' q 70 (sesC KS ⟨5, 0, (N : Int), (N : Int).tdiv 3, true, otherI KS.li, (N : Int)⟩) ∧ Below z.heap.size z w') := Lib.hid (by
      rw [hKS]
      exact fun z h1 h2 => risenC ⟨a, i, x, 1000, pa, pd, pl, Ai, ni, ci, Ao, no, co, false⟩ rfl (N : Int) (N : Int) (Lib.hid (by have := HNI.out; omega)) (Lib.hid hNh) (Lib.hid ⟨wa, wi, wp⟩) z h1 h2)
    have HK2 : Hid (KS.la < 4294967296 ∧ KS.li < 4294967296) := Lib.hid (by rw [hKS]; exact ⟨wa, wi⟩)
    have HCHK : Hid (chkT KS N 70 1 ⟨5, 0, (N : Int), (N : Int).tdiv 3, true, otherI KS.li, (N : Int)⟩ 0 = true) := Lib.hid (by rw [hKS]; exact chk_of a i x pa pd pl Ai ni ci Ao no co (otherI i) HNI.out)
    have HID : Hid (otherI KS.li < 4294967296) := Lib.hid (otherI_lt HK2.out.2)
    have HKS := Lib.hid hKS
    clear hNh hKS
    have y0 : wc.cell? ⟨xx, 0, none⟩ = some (.int .u32 a) := hX2.cell 0
    have y1 : wc.cell? ⟨xx, 1, none⟩ = some (.int .u32 i) := hX2.cell 1
    have y2 : wc.cell? ⟨xx, 2, none⟩ = some (.int .u32 x) := hX2.cell 2
    have y3 : wc.cell? ⟨xx, 3, none⟩ = some (.int .i64 1000) := hX2.cell 3
    have p0 : wc.cell? ⟨xx + 1, 0, none⟩ = some (.int .u32 pa) := hY2.cell 0
    have p1 : wc.cell? ⟨xx + 1, 1, none⟩ = some (.int .u32 pd) := hY2.cell 1
    have p2 : wc.cell? ⟨xx + 1, 2, none⟩ = some (.int .i64 pl) := hY2.cell 2
    have p3 : wc.cell? ⟨xx + 1, 3, none⟩ = some (.slice Ai ni ci) := hY2.cell 3
    have p4 : wc.cell? ⟨xx + 1, 4, none⟩ = some (.slice Ao no co) := hY2.cell 4
    go_wp2_with fail
    refine (HRISE.out wc (ht.below b02) (hlt.call b02)).mono ?_
    rintro _ w1 ⟨q, rfl, hq, S1, b1⟩
    have b01 := btr b02 b1 b02.size
    have hwq : w.heap.size ≤ q := Nat.le_trans b02.size hq
    clear y0 y1 y2 y3 p0 p1 p2 p3 p4 HRISE hX2 hY2 b1 hq b02
    have HV5 : Hid (SesOk ⟨5, 0, (N : Int), (N : Int).tdiv 3, true, otherI KS.li, (N : Int)⟩) := Lib.hid (by
      have e3 : (N : Int).tdiv 3 = (N : Int) / 3 := by rw [Int.tdiv_eq_ediv_of_nonneg (by omega)]
      have hn := HNI.out
      rw [e3]
      exact ⟨(show (0 : Int) ≤ 5 by decide), (show (5 : Int) < 6 by decide), (show (0 : Int) ≤ N by omega), (show (N : Int) ≤ 65535 by omega), (show (0 : Int) ≤ 0 by decide), (show (0 : Int) ≤ 65535 by decide), (show (0 : Int) ≤ N by omega), (show (N : Int) ≤ 65535 by omega), (show (0 : Int) ≤ (N : Int) / 3 by omega), (show (N : Int) / 3 ≤ 65535 by omega), HID.out⟩)
    go_wp2_with fail
    go_loopw [10, 11, 12, 13, 14] (fun s10 s11 _ _ _ wr => ∃ (k keeps : Nat) (V : SesV), 1 ≤ k ∧ k ≤ 71 ∧ keeps ≤ 3 * k ∧ s10 = .int .i64 (keeps : Int) ∧ s11 = .int .i64 (k : Int) ∧ Blk wr q 70 (sesC KS V) ∧ Hid (SesOk V) ∧ Hid (chkT KS N (71 - k) k V keeps = true) ∧ Below w.heap.size w wr) (fun _ k _ _ _ _ => 71 - (intOf k).toNat)
    case atStart => exact ⟨1, 0, _, by omega, by omega, by omega, rfl, rfl, S1, HV5, HCHK, b01⟩
    case round =>
      obtain ⟨k, keeps, V, hk1, hk71, hkp, rfl, rfl, S, hV, hC, b⟩ := hrel
      by_cases h70 : k ≤ 70
      case neg =>
        have t1 : decide (k ≤ 70) = false := decide_eq_false h70
        have t1' : decide ((k : Int) ≤ 70) = false := decide_eq_false (by omega)
        have hk : 71 - k = 0 := by omega
        rw [hk] at hC
        have HEND := Lib.hid (chk_end hC.out)
        have HA := Lib.hid (awake23 wr (ht.below b) (hlt.call b))
        clear hk hC h70
        by_cases hN0 : N = 0
        · have hk0 : keeps = 0 := by rcases HEND.out with h | h; exact h.2; exact absurd hN0 h.1
          have u1 : ((N : Int) == 0) = true := by simpa using hN0
          have u2 : ((keeps : Int) == 0) = true := by simpa using hk0
          clear hN0 hk0
          go_wp2_with fail
          refine HA.out.mono ?_
          rintro _ w2 ⟨rfl, b2⟩
          go_wp2_with fail
          go_ret
          exact ⟨rfl, btr b b2 b.size⟩
        · have hk2 : 2 ≤ keeps := by rcases HEND.out with h | h; exact absurd h.1 hN0; exact h.2
          have u1 : ((N : Int) == 0) = false := by simpa using hN0
          have u2 : decide (0 < N) = true := decide_eq_true (by omega)
          have u3 : decide (2 ≤ keeps) = true := decide_eq_true hk2
          have u4 : decide ((2 : Int) ≤ (keeps : Int)) = true := decide_eq_true (by omega)
          clear hN0 hk2
          go_wp2_with fail
          refine HA.out.mono ?_
          rintro _ w2 ⟨rfl, b2⟩
          go_wp2_with fail
          go_ret
          exact ⟨rfl, btr b b2 b.size⟩
      have t1 : decide (k ≤ 70) = true := decide_eq_true h70
      have t1' : decide ((k : Int) ≤ 70) = true := decide_eq_true (by omega)
      have hk : 71 - k = (70 - k) + 1 := by omega
      rw [hk] at hC
      have HST := Lib.hid (chk_step hC.out)
      have HSA := Lib.hid (step_all HST.out.1)
      have hltr := hlt.call b
      have htr := ht.below b
      clear hk hC
      go_wp2_with fail
      refine (sesTickC KS V q wr S hV HK2 htr hltr).mono ?_
      rintro _ w2 ⟨A, n, kc, rfl, o2, m2, S2⟩
      clear htr hltr
      have b2 : Below w.heap.size w w2 := ((Sm.of_below (av := [q]) b (Nat.le_refl _)).trans (m2.less b.size)).to_below (Nat.le_refl _) (by intro y hy; simp at hy; omega)
      have hd := o2.dl rOutZ_ok (by omega) (Nat.le_refl _)
      have hln := o2.len
      have HFL := Lib.hid (fun O (hO : O ∈ (sesTick KS V).2) => tickGo_flt KS (sesOver V) (sesDown V) O hO)
      have HTL := Lib.hid (show (sesTick KS V).2.length ≤ 3 from Nat.le_trans (tickGo_len KS (sesOver V) (sesDown V)) (by have := ovAt_len V.t0 V.t1 V.t2; rw [ovAt_is V.t0 V.t1 V.t2 KS V rfl rfl rfl] at this; exact this))
      have hV2 : Hid (SesOk (sesTick KS V).1) := Lib.hid (hV.out.tick KS)
      obtain ⟨P, hP⟩ : ∃ P, sesTick KS V = P := ⟨_, rfl⟩
      rw [hP] at S2 hd hln HST HSA HFL HTL hV2
      obtain ⟨V2, os⟩ := P
      simp only at S2 hd hln HST HSA HFL HTL hV2
      have HLN := Lib.hid hln
      have hn3 : n ≤ 3 := by have := HTL.out; omega
      clear hP hln o2 m2 S
      have HDD := Lib.hid hd
      clear hd
      go_wp2_with fail
      go_loopw [10, 13, 14] (fun s10 s13 _ wi => ∃ (j kk : Nat), j ≤ n ∧ s13 = .int .i64 (j : Int) ∧ s10 = .int .i64 (kk : Int) ∧ Hid (kk = keeps + cnt6 (os.take j)) ∧ kk ≤ keeps + j ∧ Below w2.heap.size w2 wi) (fun _ j _ _ => n - (intOf j).toNat)
      case atStart => exact ⟨0, keeps, by omega, rfl, rfl, Lib.hid (by simp [cnt6]), by omega, Below.refl _ _⟩
      case round =>
        obtain ⟨j, kk, hj, rfl, rfl, hkk, hkb, bi⟩ := hrel
        by_cases hjn : j < n
        case neg =>
          have t2 : decide (j < n) = false := decide_eq_false hjn
          have Si := S2.below bi S2.lt
          have HK := Lib.hid (show kk = keeps + cnt6 os by rw [hkk.out, List.take_of_length_le (by have := HLN.out; omega)])
          have bb := btr b2 bi b2.size
          have HS := Lib.hid Si
          clear t1 t1' hkb
          by_cases hN0 : N = 0
          · have h5 : V2.st = 5 := HSA.out.2.2 (.inl hN0)
            have u0 : decide (0 < N) = false := decide_eq_false (by omega)
            have u1 : ((N : Int) == 0) = true := by simpa using hN0
            have u5 : (V2.st != 5) = false := by simpa using h5
            clear hN0 h5
            go_wp2_with fail
            refine (sesState HS.out).mono ?_
            rintro _ _ ⟨rfl, rfl⟩
            go_wp2_with fail
            go_roundw
            case rel => exact ⟨k + 1, kk, V2, by omega, by omega, by have := HTL.out; have := cnt6_len os; have := HK.out; omega, rfl, by go_num, HS.out, hV2, Lib.hid (by have := HST.out.2; rw [← HK.out] at this; rw [show 71 - (k + 1) = 70 - k by omega]; exact this), bb⟩
            case measure => simp [intOf]; omega
          · have u0 : decide (0 < N) = true := decide_eq_true (by omega)
            have u1 : ((N : Int) == 0) = false := by simpa using hN0
            by_cases hkN : k < N
            · have u5 : (V2.st == 5) = true := by have := HSA.out.2.2 (.inr hkN); simpa using this
              have u6 : decide (k < N) = true := decide_eq_true hkN
              clear hN0 hkN
              go_wp2_with fail
              refine (sesState HS.out).mono ?_
              rintro _ _ ⟨rfl, rfl⟩
              go_wp2_with fail
              go_roundw
              case rel => exact ⟨k + 1, kk, V2, by omega, by omega, by have := HTL.out; have := cnt6_len os; have := HK.out; omega, rfl, by go_num, HS.out, hV2, Lib.hid (by have := HST.out.2; rw [← HK.out] at this; rw [show 71 - (k + 1) = 70 - k by omega]; exact this), bb⟩
              case measure => simp [intOf]; omega
            · have u5 : (V2.st == 5) = false := by
                cases hu : V2.st == 5
                · rfl
                · rcases HSA.out.2.1 (by simpa using hu) with h | h
                  · exact absurd h hN0
                  · exact absurd h hkN
              have u6 : decide (k < N) = false := decide_eq_false hkN
              clear hN0 hkN
              go_wp2_with fail
              refine (sesState HS.out).mono ?_
              rintro _ _ ⟨rfl, rfl⟩
              go_wp2_with fail
              go_roundw
              case rel => exact ⟨k + 1, kk, V2, by omega, by omega, by have := HTL.out; have := cnt6_len os; have := HK.out; omega, rfl, by go_num, HS.out, hV2, Lib.hid (by have := HST.out.2; rw [← HK.out] at this; rw [show 71 - (k + 1) = 70 - k by omega]; exact this), bb⟩
              case measure => simp [intOf]; omega
        have t2 : decide (j < n) = true := decide_eq_true hjn
        obtain ⟨O, hO⟩ : ∃ O, os[j]? = some O := ⟨_, List.getElem?_eq_getElem (by have := HLN.out; omega)⟩
        have hd := HDD.out.call rOutZ_ok bi
        obtain ⟨bk, off, cs, hA, hbk, hl, hc, At, nt, ct, Af, nf, cf, As, ns, ks, rfl, h1, h2, h3⟩ := hd.at_ hO
        have hOm := List.mem_of_getElem? hO
        have HF := HFL.out O hOm
        have HSO := Lib.hid (HSA.out.1 O hOm)
        have HTK := Lib.hid (show os.take (j + 1) = os.take j ++ [O] by
          obtain ⟨g1, g2⟩ := List.getElem?_eq_some_iff.1 hO
          rw [List.take_succ_eq_append_getElem g1, g2])
        have hnf : nf = 0 := by have := h2.1; rw [HF] at this; exact this
        subst hA
        have c0 : wr.cell? ⟨bk, off + j * 26, none⟩ = some (.int .i64 O.ev) := by simpa using hc 0 _ rfl
        have c1 : wr.cell? ⟨bk, off + j * 26 + 1, none⟩ = some (.int .i64 O.was) := hc 1 _ rfl
        have c2 : wr.cell? ⟨bk, off + j * 26 + 2, none⟩ = some (.int .i64 O.nx) := hc 2 _ rfl
        have c3 : wr.cell? ⟨bk, off + j * 26 + 3, none⟩ = some (.slice At nt ct) := hc 3 _ rfl
        have c4 : wr.cell? ⟨bk, off + j * 26 + 4, none⟩ = some (.int .i64 O.flt.1) := hc 4 _ rfl
        have c5 : wr.cell? ⟨bk, off + j * 26 + 5, none⟩ = some (.int .i64 O.flt.2.1) := hc 5 _ rfl
        have c6 : wr.cell? ⟨bk, off + j * 26 + 6, none⟩ = some (.slice Af nf cf) := hc 6 _ rfl
        have c23 : wr.cell? ⟨bk, off + j * 26 + 23, none⟩ = some (.bool O.fall) := hc 23 _ rfl
        have HNF := Lib.hid hnf
        clear hc h1 h2 h3 hd hl HF hOm hO hnf
        go_upto_region 17 with fail
        obtain ⟨wt, hwt, hT, bt⟩ := box1c wr #[.int .i64 O.ev, .int .i64 O.was, .int .i64 O.nx, .slice At nt ct, .int .i64 O.flt.1, .int .i64 O.flt.2.1, .slice Af nf cf] 38
        obtain ⟨tt, htt⟩ : ∃ tt, wr.heap.size = tt := ⟨_, rfl⟩
        rw [hwt]
        rw [htt] at hT
        rw [htt]
        have k23 : wt.cell? ⟨bk, off + j * 26 + 23, none⟩ = some (.bool O.fall) := (bt.cell (p := ⟨bk, off + j * 26 + 23, none⟩) hbk).trans c23
        have bit := btr bi bt bi.size
        have HTT := Lib.hid htt
        clear hwt htt c0 c1 c2 c3 c4 c5 c6 c23 hbk bi bt
        have e0 : wt.cell? ⟨tt, 0, none⟩ = some (.int .i64 O.ev) := hT.cell 0
        obtain ⟨kn, hkn⟩ : ∃ kn, keeps + cnt6 (os.take (j + 1)) = kn := ⟨_, rfl⟩
        have HKN := Lib.hid hkn
        have hkn2 : kn ≤ keeps + (j + 1) ∧ kn = kk + (if O.ev = 6 then 1 else 0) := by
          have h1 : cnt6 (os.take (j + 1)) = cnt6 (os.take j) + (if O.ev = 6 then 1 else 0) := by rw [HTK.out, cnt6_snoc]
          have h2 := hkk.out
          refine ⟨?_, by omega⟩
          have h3 := cnt6_len (os.take (j + 1))
          rw [List.length_take] at h3
          omega
        have HK2N := Lib.hid hkn2
        clear hkn hkn2
        go_upto_if 51 with fail
        go_cut [10] (fun s10 wx => s10 = .int .i64 (kn : Int) ∧ wx = wt)
        case first =>
          by_cases h6 : O.ev = 6
          · have u6 : (O.ev == 6) = true := by simpa using h6
            have HKE := Lib.hid (show kn = kk + 1 by have := HK2N.out.2; rw [if_pos h6] at this; exact this)
            have hkb2 : kk ≤ 10000 := by omega
            clear h6
            go_wp2_with fail
            go_meet
            exact ⟨by rw [HKE.out]; go_num, rfl⟩
          · have u6 : (O.ev == 6) = false := by simpa using h6
            have HKE := Lib.hid (show kn = kk by have := HK2N.out.2; rw [if_neg h6] at this; exact this)
            clear h6
            go_wp2_with fail
            go_meet
            exact ⟨by rw [HKE.out], rfl⟩
        case rest =>
          obtain ⟨rfl, hwc⟩ := hcut
          subst hwc
          cases hf : O.fall
          · rw [hf] at k23
            go_wp2_with fail
            go_roundw
            case rel => exact ⟨j + 1, kn, by omega, by go_num, rfl, Lib.hid (by rw [HKN.out]), HK2N.out.1, bit⟩
            case measure => simp [intOf]; omega
          · obtain ⟨hkN, hf1, hf2⟩ := HSO.out hf
            rw [hf] at k23
            have e4 : wc.cell? ⟨tt, 4, none⟩ = some (.int .i64 4) := by rw [← hf1]; exact hT.cell 4
            have e5 : wc.cell? ⟨tt, 5, none⟩ = some (.int .i64 0) := by rw [← hf2]; exact hT.cell 5
            have e6 : wc.cell? ⟨tt, 6, none⟩ = some (.slice Af 0 cf) := by rw [← HNF.out]; exact hT.cell 6
            have u7 : ((k : Int) != (N : Int)) = false := by rw [hkN]; simp
            have u7' : (k != N) = false := by rw [hkN]; simp
            clear hkN hf1 hf2 hf
            go_wp2_with fail
            refine (sameFault_any 4 0 4 0 Af none 0 cf 0 0 [] [] wc BS.zero_ BS.zero_).mono ?_
            rintro _ w9 ⟨rfl, b9⟩
            go_wp2_with fail
            go_roundw
            case rel => exact ⟨j + 1, kn, by omega, by go_num, rfl, Lib.hid (by rw [HKN.out]), HK2N.out.1, btr bit b9 bit.size⟩
            case measure => simp [intOf]; omega
end Go.Proofs.YthgjknmfghjioaaDoor
