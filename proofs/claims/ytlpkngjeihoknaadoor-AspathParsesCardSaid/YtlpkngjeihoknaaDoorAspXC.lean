/- Walks of layer 3 (paths): the path of a text, by the document. No conditions but sizes. -/
import Derived.Test.YtlpkngjeihoknaaDoorProg
import Derived.WalkKit
import Derived.WalkSpells
import Derived.WalkLawsBesides
import Derived.Outline
import Derived.Deep.QuietTactic
import Derived.BigQuiet
import Derived.Handy
import Derived.Lib.Hide
import Derived.Laws.Cover4
import Derived.OrdersHeld
import Derived.Deep.RegionHeld
import Derived.Deep.LoopGhost
import Derived.Deep.DeepCutAuto
import Derived.Deep.CutBlock
import Derived.Test.YtlpkngjeihoknaaDoorRefInt
import Derived.Test.YtlpkngjeihoknaaDoorAspXB
import Derived.Test.YtlpkngjeihoknaaDoorAspU
import Derived.Test.YtlpkngjeihoknaaDoorAspF
namespace Go.Proofs.YtlpkngjeihoknaaDoor
open Go.RowKit
set_option linter.unusedSimpArgs false
set_option linter.unusedVariables false
theorem pushSeg {w : World} {base n c : Nat} {A : Option Addr} {L : List (Seg × Hd)} (h : OP w base A n c L) : True := trivial
set_option maxHeartbeats 8000000 in
set_option maxRecDepth 100000 in
theorem refParse03 (s : ByteArray) (w : World) (hs : s.size ≤ 2000) :
    Calls Tryd.prog 24 #[.string s] w (RetPr w (refP s.data.toList)) := by
  have hsz : s.data.toList.length = s.size := rfl
  obtain ⟨l, hl⟩ : ∃ l, s.data.toList = l := ⟨_, rfl⟩
  rw [hl] at hsz ⊢
  have HSZ := Lib.hid hsz
  have HBY := Lib.hid (show ∀ (i x : Nat) (h : i < s.size), (s[i]'h).toNat = x → (l.drop i).head? = some (UInt8.ofNat x) ∧ x < 256 from fun i x h hx => by rw [← hl]; exact headB s i x h hx)
  have HGT := Lib.hid (show ∀ (i x : Nat) (h : i < s.size) (h' : i < l.length), (s[i]'h).toNat = x → l[i]'h' = UInt8.ofNat x from fun i x h h' hx => by subst hl; exact getB s i x h hx)
  have HEX := Lib.hid (show ∀ (a j : Nat), a ≤ j → j ≤ s.size → (s.extract a j).data.toList = (l.take j).drop a ∧ (s.extract a j).size ≤ 2000 from fun a j h1 h2 => by
    have e : (s.extract a j).data.toList = (l.take j).drop a := by rw [← ByteArray.toList_eq, Lib.extract_toList, hl, List.drop_take]
    refine ⟨e, ?_⟩
    have : (s.extract a j).size = ((l.take j).drop a).length := by rw [← e]; rfl
    rw [this, List.length_drop, List.length_take, hsz]
    omega)
  clear hl hsz
  have hsi : (s.size : Int) ≤ 2000 := by omega
  go_enter Tryd.func24, Tryd.ntmps24
  go_wp2_with fail
  go_loopg [4, 5] s.size (fun gg x y wr => ∃ (i : Nat) (A1 : Option Addr) (n1 c1 : Nat) (L : List (Seg × Hd)), x = .slice A1 n1 c1 ∧ y = .int .i64 (i : Int) ∧ i + gg = s.size ∧ OP wr w.heap.size A1 n1 c1 L ∧ n1 ≤ i ∧ Hid (Inv3 l (L.map (·.1)) i) ∧ Below w.heap.size w wr)
  case atStart => exact ⟨0, none, 0, 0, [], rfl, rfl, by omega, OP.nil_, Nat.le_refl _, Lib.hid (Inv3.start l), Below.refl _ _⟩
  case round =>
    obtain ⟨i, A1, n1, c1, L, rfl, rfl, hig, ho, hn1, HI, hb⟩ := hrel
    obtain ⟨gT, hgT⟩ : ∃ gT, gk = gT := ⟨_, rfl⟩
    have hbz := hb.size
    by_cases hlt : i < s.size
    case neg =>
      have d1 : decide (i < s.size) = false := decide_eq_false hlt
      have d1' : decide ((i : Int) < (s.size : Int)) = false := decide_eq_false (by omega)
      have HF := Lib.hid (HI.out.fin (by rw [HSZ.out]; exact hlt))
      have hdl := ho.dl
      have HBD := Lib.hid (show n1 ≤ 100000 ∧ sumN (L.map (·.1)) ≤ big32 from ⟨by omega, by have h1 := HI.out.2.2.1; have h2 := HI.out.2.2.2; have h3 := HSZ.out; unfold big32; omega⟩)
      have HNO := Lib.hid (show ∀ w', DL rSeg 2 w' (Lo w') A1 n1 (L.map (·.1)) → Calls Tryd.prog 23 #[.slice A1 n1 c1] w' (RetP w' (normA (L.map (·.1)))) from fun w' h => refNorm03 A1 n1 c1 _ w' h HBD.out.1 (Lib.hid HBD.out.2))
      obtain ⟨rr, hrr⟩ : ∃ rr, rightA (normA (L.map (·.1))) = rr := ⟨_, rfl⟩
      have HRI := Lib.hid (show ∀ (w' : World) (A' : Option Addr) (n' c' : Nat), DL rSeg 2 w' (Lo w') A' n' (normA (L.map (·.1))) → Calls Tryd.prog 20 #[.slice A' n' c'] w' fun en w'' => en = .returned (.bool rr) ∧ Below w'.heap.size w' w'' from fun w' A' n' c' h => by rw [← hrr]; exact refRight03 A' n' c' _ w' h (by rw [h.len]; have h1 := len_norm (L.map (·.1)); rw [List.length_map, ← ho.1] at h1; have := HBD.out.1; omega))
      have HRR := Lib.hid hrr
      clear hrr hlt hig
      go_wp2_with fail
      refine (HNO.out _ hdl).mono ?_
      rintro _ w2 ⟨A2, n2, c2, L2, rfl, o2, hL2, b2⟩
      have D2 := o2.dl
      rw [hL2] at D2
      clear hL2
      have b02 := btr hb b2 hb.size
      go_wp2_with fail
      refine (HRI.out _ A2 n2 c2 D2).mono ?_
      rintro _ w3 ⟨rfl, b3⟩
      have b03 := btr b02 b3 b02.size
      cases rr
      · have HP := Lib.hid (refP_no HF.out HRR.out)
        go_wp2_with fail
        go_ret2
        exact ⟨none, 0, 0, [], by rw [HP.out]; rfl, OP.nil_, by rw [HP.out]; rfl, b03⟩
      · have HP := Lib.hid (refP_yes HF.out HRR.out)
        have hdl3 := (hdl.keep rSeg_ok (Kp.call b2)).keep rSeg_ok (Kp.call b3)
        go_wp2_with fail
        refine (HNO.out _ hdl3).mono ?_
        rintro _ w4 ⟨A4, n4, c4, L4, rfl, o4, hL4, b4⟩
        have b04 := btr b03 b4 b03.size
        have HL4 := Lib.hid hL4
        clear hL4
        go_wp2_with fail
        go_ret2
        exact ⟨A4, n4, c4, L4, by rw [HP.out]; rfl, o4.low b03.size, by rw [HP.out]; exact HL4.out, b04⟩
    have d1 : decide (i < s.size) = true := decide_eq_true hlt
    have d1' : decide ((i : Int) < (s.size : Int)) = true := decide_eq_true (by omega)
    have hlti : (i : Int) < (s.size : Int) := by omega
    have HLT := Lib.hid (show i < l.length by rw [HSZ.out]; exact hlt)
    have wi : IntKind.i64.wrap ((i : Int) + 1) = ((i + 1 : Nat) : Int) := by rw [show ((i + 1 : Nat) : Int) = (i : Int) + 1 by omega]; exact IntWalk.i64_in _ ⟨by omega, by omega⟩
    go_upto_if 16 with fail
    go_cut [5] (fun s5 wx => ∃ j : Nat, s5 = .int .i64 (j : Int) ∧ i ≤ j ∧ j ≤ s.size ∧ wx = wr ∧ Hid (InvP l (L.map (·.1)) j))
    case first =>
      by_cases h0 : i = 0
      · have d2 : decide (0 < i) = false := decide_eq_false (by omega)
        have d2' : decide ((0 : Int) < (i : Int)) = false := decide_eq_false (by omega)
        have HP := Lib.hid (HI.out.piece0 HLT.out h0)
        subst h0
        go_wp2_with fail
        go_meet
        exact ⟨0, rfl, Nat.le_refl _, by omega, rfl, HP⟩
      have d2 : decide (0 < i) = true := decide_eq_true (by omega)
      have d2' : decide ((0 : Int) < (i : Int)) = true := decide_eq_true (by omega)
      have H0 := Lib.hid (show 0 < i by omega)
      obtain ⟨x, hx⟩ : ∃ x, (s[i]'hlt).toNat = x := ⟨_, rfl⟩
      have HX := Lib.hid (HBY.out i x hlt hx)
      by_cases h32 : x = 32
      · have t1 : ((x : Int) != 32) = false := by subst h32; rfl
        have HP := Lib.hid (HI.out.piece1 HLT.out H0.out (by rw [HX.out.1, h32]; rfl))
        clear h0 h32
        go_wp2_with fail
        go_meet
        exact ⟨i + 1, rfl, by omega, by omega, rfl, HP⟩
      · have t1 : ((x : Int) != 32) = true := by simp; omega
        have HP := Lib.hid (refP_none (HI.out.sep HLT.out H0.out (by rw [HX.out.1]; exact ofNat_ne (c := 32) HX.out.2 (by omega) h32)))
        clear h0 h32
        go_wp2_with fail
        go_ret2
        exact ⟨none, 0, 0, [], by rw [HP.out]; rfl, OP.nil_, by rw [HP.out]; rfl, hb⟩
    case rest =>
      obtain ⟨j, rfl, hij, hj, rfl, HP⟩ := hcut
      obtain ⟨wB, rfl⟩ : ∃ x, x = wc := ⟨_, rfl⟩
      clear d1 d1' wi hlti
      go_upto_region 9 with fail
      obtain ⟨w3, hw3, hQ3, b3⟩ := box1c wB #[.int .i64 2, .slice none 0 0] 73
      rw [hw3]
      clear hw3
      have hQl := hQ3.lt
      have hb3 := btr hb b3 hb.size
      obtain ⟨q, hq⟩ : ∃ q, wB.heap.size = q := ⟨_, rfl⟩
      have HQ := Lib.hid hq
      rw [hq] at hQ3 hQl b3
      try rw [hq]
      have hwq : w.heap.size ≤ q := by rw [← hq]; exact hbz
      clear hq hbz
      have HQA := Lib.hid (show ∀ (w' : World) (y : Seg × Hd) (ys : List Int), OU w' q y.2.1 y.2.2.1 y.2.2.2 ys → ∀ z ∈ L, Apt z y from fun w' y ys hy => ho.apt hy (by rw [HQ.out]; exact Nat.le_refl _))
      have HOW := Lib.hid ho
      have HBC := Lib.hid hb
      clear ho hb
      have q0 := hQ3.cell 0
      have fz0 := hQ3.frozen 0
      by_cases hj2 : j < s.size
      case neg =>
        have d3 : decide (j < s.size) = false := decide_eq_false hj2
        have d3' : decide ((j : Int) < (s.size : Int)) = false := decide_eq_false (by omega)
        have HM := Lib.hid (HP.out.seq (head_end l j (by rw [HSZ.out]; exact hj2) 123))
        clear hj2
        go_upto_region 12 with fail
        clear d3 d3' q0 fz0
        have HBW := Lib.hid (hb3)
        clear hb3
        go_wp2_with fail
        go_loopg [5, 7] (s.size - j) (fun gg x y wi => ∃ (e : Nat) (acc : List Int) (more : Bool) (A2 : Option Addr) (n2 c2 : Nat), x = .int .i64 (e : Int) ∧ y = .bool more ∧ e + gg = s.size ∧ j ≤ e ∧ (more = false → j < e) ∧ Blk wi q 73 #[.int .i64 2, .slice A2 n2 c2] ∧ OU wi q A2 n2 c2 acc ∧ Below q wB wi ∧ Hid (InvM l (L.map (·.1)) 2 acc more e))
        case atStart => exact ⟨j, [], true, none, 0, 0, (by first | rfl | go_num), rfl, by omega, Nat.le_refl _, (fun h => by cases h), hQ3, OU.nil_, b3, HM⟩
        case round =>
          obtain ⟨e, acc, more, A2, n2, c2, rfl, rfl, heg, hje, hjm, hQi, oi, bi, HMi⟩ := hrel
          obtain ⟨gM, hgM⟩ : ∃ gM, gk = gM := ⟨_, rfl⟩
          have HAC := Lib.hid (show acc.length ≤ 2000 by have h1 := HMi.out.2.2.1; have h2 := HMi.out.2.2.2.1; have h3 := HSZ.out; omega)
          have x0 : wr.cell? ⟨q, 0, none⟩ = some (.int .i64 2) := hQi.cell 0
          have x1 : wr.cell? ⟨q, 1, none⟩ = some (.slice A2 n2 c2) := hQi.cell 1
          have hes : e ≤ s.size := by omega
          cases more
          case false =>
            have hje2 := hjm rfl
            have B0 := HOW.out
            have HNI := Lib.hid (HMi.out.done)
            have biC : Below wB.heap.size wB wr := by rw [HQ.out]; exact bi
            have hop := HOW.out.call biC
            have hbb : Below w.heap.size w wr := btr HBC.out biC HBC.out.size
            have oa := own_alloc2 hop.2.1 (.cells #[.int .i64 2, .slice A2 n2 c2] 73)
            have B5 := hbb.alloc hbb.size (.cells #[.int .i64 2, .slice A2 n2 c2] 73)
            have HOP := Lib.hid (hop.call ((Below.refl wr.heap.size wr).alloc (Nat.le_refl _) (.cells #[.int .i64 2, .slice A2 n2 c2] 73)))
            have o3a := Lib.hid ((oi.alloc (.cells #[.int .i64 2, .slice A2 n2 c2] 73)).low hwq)
            have HAP := Lib.hid (HQA.out wr (((2 : Int), acc), (A2, n2, c2)) acc oi)
            have hbz5 : w.heap.size ≤ wr.heap.size := hbb.size
            have HB5 := Lib.hid B5
            clear B5 hop hbb
            go_wp2_with (at_builtin; refine wpl_appR rfl (.tmp 107) (.tmp 109) 22 rfl 73 _ 2 32 Tryd.underlying22 seg_info rfl (by omega) w.heap.size _ n1 _ _ (by rfl) oa (wr.heap.size + 1) (some ⟨wr.heap.size, 0, none⟩) 1 1 [.int .i64 2, .slice A2 n2 c2] (by rfl) (Reads.two wr 73 (.int .i64 2) (.slice A2 n2 c2) rfl) (by intro u hu; simp at hu; rcases hu with rfl | rfl <;> rfl) (by unfold maxLen; omega) (by omega) (by simp; omega) ?_; intro A6 c6 w6 o6 b6 g6 _)
            have hO6 := HOP.out.push (y := (((2 : Int), acc), (A2, n2, c2))) o3a.out HAP.out o6 g6
            go_roundg (s.size - (e))
            case measure => omega
            case rel => exact ⟨e, A6, n1 + 1, c6, _, rfl, by go_num, by omega, hO6, by omega, Lib.hid (by rw [List.map_append]; exact HNI.out), HB5.out.trans b6⟩
          case true =>
            go_upto_block 4 with fail
            go_cut [5] (fun s5 wx => ∃ f : Nat, s5 = .int .i64 (f : Int) ∧ e ≤ f ∧ f ≤ s.size ∧ wx = wr ∧ Hid (DInv l e f) ∧ Hid ((l.drop e).takeWhile isD = (l.take f).drop e ∧ (l.drop e).dropWhile isD = l.drop f))
            case first =>
              go_wp2_with fail
              go_loopg [5] (s.size - e) (fun gg x wx => ∃ f : Nat, x = .int .i64 (f : Int) ∧ e ≤ f ∧ f + gg = s.size ∧ wx = wr ∧ Hid (DInv l e f))
              case atStart => exact ⟨e, rfl, Nat.le_refl _, by omega, rfl, Lib.hid (DInv.start (by rw [HSZ.out]; exact hes))⟩
              case round =>
                obtain ⟨f, rfl, hef, hfg, rfl, HD⟩ := hrel
                obtain ⟨gD, hgD⟩ : ∃ gD, gk = gD := ⟨_, rfl⟩
                by_cases hf : f < s.size
                case neg =>
                  have d5 : decide (f < s.size) = false := decide_eq_false hf
                  have d5' : decide ((f : Int) < (s.size : Int)) = false := decide_eq_false (by omega)
                  have HS := Lib.hid (HD.out.stop (fun b h => absurd h (head_end l f (by rw [HSZ.out]; exact hf) b)))
                  clear hf
                  go_wp2_with fail
                  go_meet
                  exact ⟨f, rfl, hef, by omega, rfl, HD, HS⟩
                have d5 : decide (f < s.size) = true := decide_eq_true hf
                have d5' : decide ((f : Int) < (s.size : Int)) = true := decide_eq_true (by omega)
                have hfi : (f : Int) < (s.size : Int) := by omega
                obtain ⟨x, hx⟩ : ∃ x, (s[f]'hf).toNat = x := ⟨_, rfl⟩
                have HX := Lib.hid (HBY.out f x hf hx)
                by_cases h48 : 48 ≤ x
                case neg =>
                  have t6 : decide (48 ≤ x) = false := decide_eq_false h48
                  have t6' : decide ((48 : Int) ≤ (x : Int)) = false := decide_eq_false (by omega)
                  have HS := Lib.hid (HD.out.stop (fun b h => by rw [HX.out.1] at h; injection h with h; subst h; rw [isD_nat HX.out.2]; exact decide_eq_false (by omega)))
                  clear h48
                  go_wp2_with fail
                  go_meet
                  exact ⟨f, rfl, hef, by omega, rfl, HD, HS⟩
                have t6 : decide (48 ≤ x) = true := decide_eq_true h48
                have t6' : decide ((48 : Int) ≤ (x : Int)) = true := decide_eq_true (by omega)
                by_cases h57 : x ≤ 57
                case neg =>
                  have t7 : decide (x ≤ 57) = false := decide_eq_false h57
                  have t7' : decide ((x : Int) ≤ 57) = false := decide_eq_false (by omega)
                  have HS := Lib.hid (HD.out.stop (fun b h => by rw [HX.out.1] at h; injection h with h; subst h; rw [isD_nat HX.out.2]; exact decide_eq_false (by omega)))
                  clear h48 h57
                  go_wp2_with fail
                  go_meet
                  exact ⟨f, rfl, hef, by omega, rfl, HD, HS⟩
                have t7 : decide (x ≤ 57) = true := decide_eq_true h57
                have t7' : decide ((x : Int) ≤ 57) = true := decide_eq_true (by omega)
                have hfl : f < l.length := by rw [HSZ.out]; exact hf
                have HD2 := Lib.hid (HD.out.step hfl (by rw [HGT.out f x hf hfl hx, isD_nat HX.out.2]; exact decide_eq_true ⟨h48, h57⟩))
                have wf : IntKind.i64.wrap ((f : Int) + 1) = ((f + 1 : Nat) : Int) := by rw [show ((f + 1 : Nat) : Int) = (f : Int) + 1 by omega]; exact IntWalk.i64_in _ ⟨by omega, by omega⟩
                clear h48 h57 hfl
                go_wp2_with fail
                go_roundg (s.size - (f + 1))
                case measure => omega
                case rel => exact ⟨f + 1, by go_num, by omega, by omega, rfl, HD2⟩
            case rest =>
              obtain ⟨f, rfl, hef, hfs, rfl, HD, HS⟩ := hcut
              have hefi : (e : Int) ≤ (f : Int) := by omega
              have hfsi : (f : Int) ≤ (s.size : Int) := by omega
              have HE := Lib.hid (HEX.out e f hef hfs)
              have HJE := Lib.hid hje
              clear x0 x1 hje hjm
              have HINT := Lib.hid (show ∀ w', Calls Tryd.prog 65 #[.string (s.extract e f)] w' (RetIB w' ((l.take f).drop e)) from fun w' => by have := refInt_any (s.extract e f) w' HE.out.2; rw [HE.out.1] at this; exact this)
              go_wp2_with fail
              refine (HINT.out _).mono ?_
              rintro _ w6 ⟨v, ok, rfl, hans, b6⟩
              have HAN := Lib.hid hans
              clear hans
              have hQ6 := hQi.below b6 hQi.lt
              have o6 := oi.call b6
              have b06 := btr bi b6 (Nat.le_of_lt hQi.lt)
              cases ok
              case false =>
                have HPN := Lib.hid (refP_none (HMi.out.bad (by rw [HS.out.1]; exact (intO_no HAN.out).1)))
                have HBX := Lib.hid (show Below w.heap.size w w6 from btr HBC.out (by rw [HQ.out]; exact b06) HBC.out.size)
                clear hQ6 o6 b06
                go_wp2_with fail
                go_ret2
                exact ⟨none, 0, 0, [], by rw [HPN.out]; rfl, OP.nil_, by rw [HPN.out]; rfl, HBX.out⟩
              case true =>
                have HV := Lib.hid (intO_yes HAN.out)
                have HVB := Lib.hid (intO_some HV.out)
                have hlt2 : e < f := HD.out.lt HV.out
                have hvw : (Lit.int .u32 v).wf = true := by
                  obtain ⟨N, hN⟩ := Int.eq_ofNat_of_zero_le HVB.out.1
                  have := HVB.out.2.1
                  rw [hN] at this ⊢
                  exact un32 (by omega)
                have hcw : IntKind.u32.wrap v = v := u32_id HVB.out.1 HVB.out.2.1
                have y1 := hQ6.cell 1
                have hzq : q ≤ w6.heap.size := by have := hQ6.lt; omega
                have hQ6a := hQ6.alloc (.cells #[.int .u32 v] 33)
                have o6a := o6.alloc (.cells #[.int .u32 v] 33)
                have HAC2 := Lib.hid (show acc.length + 1 ≤ 2001 by have := HAC.out; omega)
                have hvn := NS.one w6 hvw (g := w6.heap.size) rfl
                go_upto_region 21 with (at_builtin; refine wpl_appU rfl (.tmp 68) (.tmp 71) rfl q A2 n2 c2 acc (by rfl) o6a (w6.heap.size + 1) (some ⟨w6.heap.size, 0, none⟩) 1 1 [v] (by rfl) hvn (by have := HAC2.out; simp; omega) (by simp; omega) ?_; intro A7 n7 c7 w7 o7 b7 g7; have hQ7 := hQ6a.grown g7 (by intro e; first | exact own_blk_ne o6a.2.1 hQ6a (by decide) e | exact own_blk_ne o6a.2.1 hQ6a (by decide) e.symm); have f7 := hQ7.frozen 1; have cc7 := hQ7.cell 1)
                have hQ8 := hQ7.set_ 1 (.slice A7 n7 c7)
                simp only [List.setIfInBounds_toArray, List.set_cons_succ, List.set_cons_zero] at hQ8
                have g8 := only_setCell (World.grownBy.refl w7 (some q)) (p := ⟨q, 1, none⟩) (.inl rfl) (.slice A7 n7 c7)
                have o8 : OU (w7.setCell ⟨q, 1, none⟩ (.slice A7 n7 c7)) q A7 n7 c7 (acc ++ [v]) := ⟨o7.1, own_at o7.2.1 hQ7 (by decide) g8, o7.2.2⟩
                have b8 : Below q wB (w7.setCell ⟨q, 1, none⟩ (.slice A7 n7 c7)) := ((b06.alloc hzq (.cells #[.int .u32 v] 33)).trans b7).setCell (p := ⟨q, 1, none⟩) (Nat.le_refl _) _
                obtain ⟨w8, hw8⟩ : ∃ W, w7.setCell ⟨q, 1, none⟩ (.slice A7 n7 c7) = W := ⟨_, rfl⟩
                rw [hw8] at hQ8 o8 b8
                rw [hw8]
                clear hw8 g8 hQ7 f7 cc7 y1 hvn o6a hQ6a hQ6 o6 b06
                have z0 := hQ8.cell 0
                have HMN := Lib.hid (HMi.out.last (by rw [HS.out.1]; exact HV.out) HS.out.2 hlt2 (by rw [HSZ.out]; exact hfs) (.inl rfl))
                go_wp2_with fail
                go_roundg (s.size - f)
                case measure => omega
                case rel => exact ⟨f, acc ++ [v], false, A7, n7, c7, rfl, rfl, by omega, (by have := HJE.out; omega), (fun _ => by have := HJE.out; omega), hQ8, o8, b8, HMN⟩
      have d3 : decide (j < s.size) = true := decide_eq_true hj2
      have d3' : decide ((j : Int) < (s.size : Int)) = true := decide_eq_true (by omega)
      have hj2i : (j : Int) < (s.size : Int) := by omega
      obtain ⟨x, hx⟩ : ∃ x, (s[j]'hj2).toNat = x := ⟨_, rfl⟩
      have HX := Lib.hid (HBY.out j x hj2 hx)
      by_cases h123 : x = 123
      case neg =>
        have t1 : ((x : Int) == 123) = false := by simp; omega
        have HM := Lib.hid (HP.out.seq (by rw [HX.out.1]; exact ofNat_ne (c := 123) HX.out.2 (by omega) h123))
        clear h123
        go_upto_region 12 with fail
        clear d3 d3' q0 fz0 t1 hj2i hx
        have HBW := Lib.hid (hb3)
        clear hb3
        go_wp2_with fail
        go_loopg [5, 7] (s.size - j) (fun gg x y wi => ∃ (e : Nat) (acc : List Int) (more : Bool) (A2 : Option Addr) (n2 c2 : Nat), x = .int .i64 (e : Int) ∧ y = .bool more ∧ e + gg = s.size ∧ j ≤ e ∧ (more = false → j < e) ∧ Blk wi q 73 #[.int .i64 2, .slice A2 n2 c2] ∧ OU wi q A2 n2 c2 acc ∧ Below q wB wi ∧ Hid (InvM l (L.map (·.1)) 2 acc more e))
        case atStart => exact ⟨j, [], true, none, 0, 0, (by first | rfl | go_num), rfl, by omega, Nat.le_refl _, (fun h => by cases h), hQ3, OU.nil_, b3, HM⟩
        case round =>
          obtain ⟨e, acc, more, A2, n2, c2, rfl, rfl, heg, hje, hjm, hQi, oi, bi, HMi⟩ := hrel
          obtain ⟨gM, hgM⟩ : ∃ gM, gk = gM := ⟨_, rfl⟩
          have HAC := Lib.hid (show acc.length ≤ 2000 by have h1 := HMi.out.2.2.1; have h2 := HMi.out.2.2.2.1; have h3 := HSZ.out; omega)
          have x0 : wr.cell? ⟨q, 0, none⟩ = some (.int .i64 2) := hQi.cell 0
          have x1 : wr.cell? ⟨q, 1, none⟩ = some (.slice A2 n2 c2) := hQi.cell 1
          have hes : e ≤ s.size := by omega
          cases more
          case false =>
            have hje2 := hjm rfl
            have B0 := HOW.out
            have HNI := Lib.hid (HMi.out.done)
            have biC : Below wB.heap.size wB wr := by rw [HQ.out]; exact bi
            have hop := HOW.out.call biC
            have hbb : Below w.heap.size w wr := btr HBC.out biC HBC.out.size
            have oa := own_alloc2 hop.2.1 (.cells #[.int .i64 2, .slice A2 n2 c2] 73)
            have B5 := hbb.alloc hbb.size (.cells #[.int .i64 2, .slice A2 n2 c2] 73)
            have HOP := Lib.hid (hop.call ((Below.refl wr.heap.size wr).alloc (Nat.le_refl _) (.cells #[.int .i64 2, .slice A2 n2 c2] 73)))
            have o3a := Lib.hid ((oi.alloc (.cells #[.int .i64 2, .slice A2 n2 c2] 73)).low hwq)
            have HAP := Lib.hid (HQA.out wr (((2 : Int), acc), (A2, n2, c2)) acc oi)
            have hbz5 : w.heap.size ≤ wr.heap.size := hbb.size
            have HB5 := Lib.hid B5
            clear B5 hop hbb
            go_wp2_with (at_builtin; refine wpl_appR rfl (.tmp 107) (.tmp 109) 22 rfl 73 _ 2 32 Tryd.underlying22 seg_info rfl (by omega) w.heap.size _ n1 _ _ (by rfl) oa (wr.heap.size + 1) (some ⟨wr.heap.size, 0, none⟩) 1 1 [.int .i64 2, .slice A2 n2 c2] (by rfl) (Reads.two wr 73 (.int .i64 2) (.slice A2 n2 c2) rfl) (by intro u hu; simp at hu; rcases hu with rfl | rfl <;> rfl) (by unfold maxLen; omega) (by omega) (by simp; omega) ?_; intro A6 c6 w6 o6 b6 g6 _)
            have hO6 := HOP.out.push (y := (((2 : Int), acc), (A2, n2, c2))) o3a.out HAP.out o6 g6
            go_roundg (s.size - (e))
            case measure => omega
            case rel => exact ⟨e, A6, n1 + 1, c6, _, rfl, by go_num, by omega, hO6, by omega, Lib.hid (by rw [List.map_append]; exact HNI.out), HB5.out.trans b6⟩
          case true =>
            go_upto_block 4 with fail
            go_cut [5] (fun s5 wx => ∃ f : Nat, s5 = .int .i64 (f : Int) ∧ e ≤ f ∧ f ≤ s.size ∧ wx = wr ∧ Hid (DInv l e f) ∧ Hid ((l.drop e).takeWhile isD = (l.take f).drop e ∧ (l.drop e).dropWhile isD = l.drop f))
            case first =>
              go_wp2_with fail
              go_loopg [5] (s.size - e) (fun gg x wx => ∃ f : Nat, x = .int .i64 (f : Int) ∧ e ≤ f ∧ f + gg = s.size ∧ wx = wr ∧ Hid (DInv l e f))
              case atStart => exact ⟨e, rfl, Nat.le_refl _, by omega, rfl, Lib.hid (DInv.start (by rw [HSZ.out]; exact hes))⟩
              case round =>
                obtain ⟨f, rfl, hef, hfg, rfl, HD⟩ := hrel
                obtain ⟨gD, hgD⟩ : ∃ gD, gk = gD := ⟨_, rfl⟩
                by_cases hf : f < s.size
                case neg =>
                  have d5 : decide (f < s.size) = false := decide_eq_false hf
                  have d5' : decide ((f : Int) < (s.size : Int)) = false := decide_eq_false (by omega)
                  have HS := Lib.hid (HD.out.stop (fun b h => absurd h (head_end l f (by rw [HSZ.out]; exact hf) b)))
                  clear hf
                  go_wp2_with fail
                  go_meet
                  exact ⟨f, rfl, hef, by omega, rfl, HD, HS⟩
                have d5 : decide (f < s.size) = true := decide_eq_true hf
                have d5' : decide ((f : Int) < (s.size : Int)) = true := decide_eq_true (by omega)
                have hfi : (f : Int) < (s.size : Int) := by omega
                obtain ⟨x, hx⟩ : ∃ x, (s[f]'hf).toNat = x := ⟨_, rfl⟩
                have HX := Lib.hid (HBY.out f x hf hx)
                by_cases h48 : 48 ≤ x
                case neg =>
                  have t6 : decide (48 ≤ x) = false := decide_eq_false h48
                  have t6' : decide ((48 : Int) ≤ (x : Int)) = false := decide_eq_false (by omega)
                  have HS := Lib.hid (HD.out.stop (fun b h => by rw [HX.out.1] at h; injection h with h; subst h; rw [isD_nat HX.out.2]; exact decide_eq_false (by omega)))
                  clear h48
                  go_wp2_with fail
                  go_meet
                  exact ⟨f, rfl, hef, by omega, rfl, HD, HS⟩
                have t6 : decide (48 ≤ x) = true := decide_eq_true h48
                have t6' : decide ((48 : Int) ≤ (x : Int)) = true := decide_eq_true (by omega)
                by_cases h57 : x ≤ 57
                case neg =>
                  have t7 : decide (x ≤ 57) = false := decide_eq_false h57
                  have t7' : decide ((x : Int) ≤ 57) = false := decide_eq_false (by omega)
                  have HS := Lib.hid (HD.out.stop (fun b h => by rw [HX.out.1] at h; injection h with h; subst h; rw [isD_nat HX.out.2]; exact decide_eq_false (by omega)))
                  clear h48 h57
                  go_wp2_with fail
                  go_meet
                  exact ⟨f, rfl, hef, by omega, rfl, HD, HS⟩
                have t7 : decide (x ≤ 57) = true := decide_eq_true h57
                have t7' : decide ((x : Int) ≤ 57) = true := decide_eq_true (by omega)
                have hfl : f < l.length := by rw [HSZ.out]; exact hf
                have HD2 := Lib.hid (HD.out.step hfl (by rw [HGT.out f x hf hfl hx, isD_nat HX.out.2]; exact decide_eq_true ⟨h48, h57⟩))
                have wf : IntKind.i64.wrap ((f : Int) + 1) = ((f + 1 : Nat) : Int) := by rw [show ((f + 1 : Nat) : Int) = (f : Int) + 1 by omega]; exact IntWalk.i64_in _ ⟨by omega, by omega⟩
                clear h48 h57 hfl
                go_wp2_with fail
                go_roundg (s.size - (f + 1))
                case measure => omega
                case rel => exact ⟨f + 1, by go_num, by omega, by omega, rfl, HD2⟩
            case rest =>
              obtain ⟨f, rfl, hef, hfs, rfl, HD, HS⟩ := hcut
              have hefi : (e : Int) ≤ (f : Int) := by omega
              have hfsi : (f : Int) ≤ (s.size : Int) := by omega
              have HE := Lib.hid (HEX.out e f hef hfs)
              have HJE := Lib.hid hje
              clear x0 x1 hje hjm
              have HINT := Lib.hid (show ∀ w', Calls Tryd.prog 65 #[.string (s.extract e f)] w' (RetIB w' ((l.take f).drop e)) from fun w' => by have := refInt_any (s.extract e f) w' HE.out.2; rw [HE.out.1] at this; exact this)
              go_wp2_with fail
              refine (HINT.out _).mono ?_
              rintro _ w6 ⟨v, ok, rfl, hans, b6⟩
              have HAN := Lib.hid hans
              clear hans
              have hQ6 := hQi.below b6 hQi.lt
              have o6 := oi.call b6
              have b06 := btr bi b6 (Nat.le_of_lt hQi.lt)
              cases ok
              case false =>
                have HPN := Lib.hid (refP_none (HMi.out.bad (by rw [HS.out.1]; exact (intO_no HAN.out).1)))
                have HBX := Lib.hid (show Below w.heap.size w w6 from btr HBC.out (by rw [HQ.out]; exact b06) HBC.out.size)
                clear hQ6 o6 b06
                go_wp2_with fail
                go_ret2
                exact ⟨none, 0, 0, [], by rw [HPN.out]; rfl, OP.nil_, by rw [HPN.out]; rfl, HBX.out⟩
              case true =>
                have HV := Lib.hid (intO_yes HAN.out)
                have HVB := Lib.hid (intO_some HV.out)
                have hlt2 : e < f := HD.out.lt HV.out
                have hvw : (Lit.int .u32 v).wf = true := by
                  obtain ⟨N, hN⟩ := Int.eq_ofNat_of_zero_le HVB.out.1
                  have := HVB.out.2.1
                  rw [hN] at this ⊢
                  exact un32 (by omega)
                have hcw : IntKind.u32.wrap v = v := u32_id HVB.out.1 HVB.out.2.1
                have y1 := hQ6.cell 1
                have hzq : q ≤ w6.heap.size := by have := hQ6.lt; omega
                have hQ6a := hQ6.alloc (.cells #[.int .u32 v] 33)
                have o6a := o6.alloc (.cells #[.int .u32 v] 33)
                have HAC2 := Lib.hid (show acc.length + 1 ≤ 2001 by have := HAC.out; omega)
                have hvn := NS.one w6 hvw (g := w6.heap.size) rfl
                go_upto_region 21 with (at_builtin; refine wpl_appU rfl (.tmp 68) (.tmp 71) rfl q A2 n2 c2 acc (by rfl) o6a (w6.heap.size + 1) (some ⟨w6.heap.size, 0, none⟩) 1 1 [v] (by rfl) hvn (by have := HAC2.out; simp; omega) (by simp; omega) ?_; intro A7 n7 c7 w7 o7 b7 g7; have hQ7 := hQ6a.grown g7 (by intro e; first | exact own_blk_ne o6a.2.1 hQ6a (by decide) e | exact own_blk_ne o6a.2.1 hQ6a (by decide) e.symm); have f7 := hQ7.frozen 1; have cc7 := hQ7.cell 1)
                have hQ8 := hQ7.set_ 1 (.slice A7 n7 c7)
                simp only [List.setIfInBounds_toArray, List.set_cons_succ, List.set_cons_zero] at hQ8
                have g8 := only_setCell (World.grownBy.refl w7 (some q)) (p := ⟨q, 1, none⟩) (.inl rfl) (.slice A7 n7 c7)
                have o8 : OU (w7.setCell ⟨q, 1, none⟩ (.slice A7 n7 c7)) q A7 n7 c7 (acc ++ [v]) := ⟨o7.1, own_at o7.2.1 hQ7 (by decide) g8, o7.2.2⟩
                have b8 : Below q wB (w7.setCell ⟨q, 1, none⟩ (.slice A7 n7 c7)) := ((b06.alloc hzq (.cells #[.int .u32 v] 33)).trans b7).setCell (p := ⟨q, 1, none⟩) (Nat.le_refl _) _
                obtain ⟨w8, hw8⟩ : ∃ W, w7.setCell ⟨q, 1, none⟩ (.slice A7 n7 c7) = W := ⟨_, rfl⟩
                rw [hw8] at hQ8 o8 b8
                rw [hw8]
                clear hw8 g8 hQ7 f7 cc7 y1 hvn o6a hQ6a hQ6 o6 b06
                have z0 := hQ8.cell 0
                have HMN := Lib.hid (HMi.out.last (by rw [HS.out.1]; exact HV.out) HS.out.2 hlt2 (by rw [HSZ.out]; exact hfs) (.inl rfl))
                go_wp2_with fail
                go_roundg (s.size - f)
                case measure => omega
                case rel => exact ⟨f, acc ++ [v], false, A7, n7, c7, rfl, rfl, by omega, (by have := HJE.out; omega), (fun _ => by have := HJE.out; omega), hQ8, o8, b8, HMN⟩
      have t1 : ((x : Int) == 123) = true := by subst h123; rfl
      have HM := Lib.hid (HP.out.set (by rw [HX.out.1, h123]; rfl))
      clear h123
      have wj : IntKind.i64.wrap ((j : Int) + 1) = ((j + 1 : Nat) : Int) := by rw [show ((j + 1 : Nat) : Int) = (j : Int) + 1 by omega]; exact IntWalk.i64_in _ ⟨by omega, by omega⟩
      go_upto_region 12 with fail
      have hQ4 := hQ3.set_ 0 (.int .i64 1)
      have g4 := only_setCell (World.grownBy.refl w3 (some q)) (p := ⟨q, 0, none⟩) (.inl rfl) (.int .i64 1)
      have b4 : Below q wB (w3.setCell ⟨q, 0, none⟩ (.int .i64 1)) := b3.setCell (p := ⟨q, 0, none⟩) (Nat.le_refl _) _
      have hb4 := hb3.setCell (p := ⟨q, 0, none⟩) hwq (.int .i64 1)
      obtain ⟨w4, hw4⟩ : ∃ W, w3.setCell ⟨q, 0, none⟩ (.int .i64 1) = W := ⟨_, rfl⟩
      rw [hw4] at hQ4 b4 hb4
      rw [hw4]
      simp only [List.setIfInBounds_toArray, List.set_cons_zero] at hQ4
      clear hw4 d3 d3' q0 fz0 t1 hx wj g4 hQ3 b3 hb3
      have hij1 : i ≤ j + 1 := by omega
      have hjs1 : j + 1 ≤ s.size := by omega
      clear hj2i hj2
      have HBW := Lib.hid (hb4)
      clear hb4
      go_wp2_with fail
      go_loopg [5, 7] (s.size - (j + 1)) (fun gg x y wi => ∃ (e : Nat) (acc : List Int) (more : Bool) (A2 : Option Addr) (n2 c2 : Nat), x = .int .i64 (e : Int) ∧ y = .bool more ∧ e + gg = s.size ∧ (j + 1) ≤ e ∧ (more = false → (j + 1) < e) ∧ Blk wi q 73 #[.int .i64 1, .slice A2 n2 c2] ∧ OU wi q A2 n2 c2 acc ∧ Below q wB wi ∧ Hid (InvM l (L.map (·.1)) 1 acc more e))
      case atStart => exact ⟨(j + 1), [], true, none, 0, 0, (by first | rfl | go_num), rfl, by omega, Nat.le_refl _, (fun h => by cases h), hQ4, OU.nil_, b4, HM⟩
      case round =>
        obtain ⟨e, acc, more, A2, n2, c2, rfl, rfl, heg, hje, hjm, hQi, oi, bi, HMi⟩ := hrel
        obtain ⟨gM, hgM⟩ : ∃ gM, gk = gM := ⟨_, rfl⟩
        have HAC := Lib.hid (show acc.length ≤ 2000 by have h1 := HMi.out.2.2.1; have h2 := HMi.out.2.2.2.1; have h3 := HSZ.out; omega)
        have x0 : wr.cell? ⟨q, 0, none⟩ = some (.int .i64 1) := hQi.cell 0
        have x1 : wr.cell? ⟨q, 1, none⟩ = some (.slice A2 n2 c2) := hQi.cell 1
        have hes : e ≤ s.size := by omega
        cases more
        case false =>
          have hje2 := hjm rfl
          have B0 := HOW.out
          by_cases hes2 : e < s.size
          case neg =>
            have d4 : decide (s.size ≤ e) = true := decide_eq_true (by omega)
            have d4' : decide ((s.size : Int) ≤ (e : Int)) = true := decide_eq_true (by omega)
            have HPN := Lib.hid (refP_none (HMi.out.open_ (head_end l e (by rw [HSZ.out]; exact hes2) 125)))
            have HBX := Lib.hid (show Below w.heap.size w wr from btr HBC.out (by rw [HQ.out]; exact bi) HBC.out.size)
            clear hes2
            go_wp2_with fail
            go_ret2
            exact ⟨none, 0, 0, [], by rw [HPN.out]; rfl, OP.nil_, by rw [HPN.out]; rfl, HBX.out⟩
          have d4 : decide (s.size ≤ e) = false := decide_eq_false (by omega)
          have d4' : decide ((s.size : Int) ≤ (e : Int)) = false := decide_eq_false (by omega)
          have hes2i : (e : Int) < (s.size : Int) := by omega
          obtain ⟨x, hx⟩ : ∃ x, (s[e]'hes2).toNat = x := ⟨_, rfl⟩
          have HX := Lib.hid (HBY.out e x hes2 hx)
          by_cases h125 : x = 125
          case neg =>
            have t5 : ((x : Int) != 125) = true := by simp; omega
            have HPN := Lib.hid (refP_none (HMi.out.open_ (by rw [HX.out.1]; exact ofNat_ne (c := 125) HX.out.2 (by omega) h125)))
            have HBX := Lib.hid (show Below w.heap.size w wr from btr HBC.out (by rw [HQ.out]; exact bi) HBC.out.size)
            clear h125
            go_wp2_with fail
            go_ret2
            exact ⟨none, 0, 0, [], by rw [HPN.out]; rfl, OP.nil_, by rw [HPN.out]; rfl, HBX.out⟩
          have t5 : ((x : Int) != 125) = false := by subst h125; rfl
          have HCL := Lib.hid (HMi.out.close (by rw [HX.out.1, h125]; rfl))
          clear h125
          have we : IntKind.i64.wrap ((e : Int) + 1) = ((e + 1 : Nat) : Int) := by rw [show ((e + 1 : Nat) : Int) = (e : Int) + 1 by omega]; exact IntWalk.i64_in _ ⟨by omega, by omega⟩
          have HNI := Lib.hid (HCL.out)
          have biC : Below wB.heap.size wB wr := by rw [HQ.out]; exact bi
          have hop := HOW.out.call biC
          have hbb : Below w.heap.size w wr := btr HBC.out biC HBC.out.size
          have oa := own_alloc2 hop.2.1 (.cells #[.int .i64 1, .slice A2 n2 c2] 73)
          have B5 := hbb.alloc hbb.size (.cells #[.int .i64 1, .slice A2 n2 c2] 73)
          have HOP := Lib.hid (hop.call ((Below.refl wr.heap.size wr).alloc (Nat.le_refl _) (.cells #[.int .i64 1, .slice A2 n2 c2] 73)))
          have o3a := Lib.hid ((oi.alloc (.cells #[.int .i64 1, .slice A2 n2 c2] 73)).low hwq)
          have HAP := Lib.hid (HQA.out wr (((1 : Int), acc), (A2, n2, c2)) acc oi)
          have hbz5 : w.heap.size ≤ wr.heap.size := hbb.size
          have HB5 := Lib.hid B5
          clear B5 hop hbb
          go_wp2_with (at_builtin; refine wpl_appR rfl (.tmp 107) (.tmp 109) 22 rfl 73 _ 2 32 Tryd.underlying22 seg_info rfl (by omega) w.heap.size _ n1 _ _ (by rfl) oa (wr.heap.size + 1) (some ⟨wr.heap.size, 0, none⟩) 1 1 [.int .i64 1, .slice A2 n2 c2] (by rfl) (Reads.two wr 73 (.int .i64 1) (.slice A2 n2 c2) rfl) (by intro u hu; simp at hu; rcases hu with rfl | rfl <;> rfl) (by unfold maxLen; omega) (by omega) (by simp; omega) ?_; intro A6 c6 w6 o6 b6 g6 _)
          have hO6 := HOP.out.push (y := (((1 : Int), acc), (A2, n2, c2))) o3a.out HAP.out o6 g6
          go_roundg (s.size - (e + 1))
          case measure => omega
          case rel => exact ⟨e + 1, A6, n1 + 1, c6, _, rfl, by go_num, by omega, hO6, by omega, Lib.hid (by rw [List.map_append]; exact HNI.out), HB5.out.trans b6⟩
        case true =>
          go_upto_block 4 with fail
          go_cut [5] (fun s5 wx => ∃ f : Nat, s5 = .int .i64 (f : Int) ∧ e ≤ f ∧ f ≤ s.size ∧ wx = wr ∧ Hid (DInv l e f) ∧ Hid ((l.drop e).takeWhile isD = (l.take f).drop e ∧ (l.drop e).dropWhile isD = l.drop f))
          case first =>
            go_wp2_with fail
            go_loopg [5] (s.size - e) (fun gg x wx => ∃ f : Nat, x = .int .i64 (f : Int) ∧ e ≤ f ∧ f + gg = s.size ∧ wx = wr ∧ Hid (DInv l e f))
            case atStart => exact ⟨e, rfl, Nat.le_refl _, by omega, rfl, Lib.hid (DInv.start (by rw [HSZ.out]; exact hes))⟩
            case round =>
              obtain ⟨f, rfl, hef, hfg, rfl, HD⟩ := hrel
              obtain ⟨gD, hgD⟩ : ∃ gD, gk = gD := ⟨_, rfl⟩
              by_cases hf : f < s.size
              case neg =>
                have d5 : decide (f < s.size) = false := decide_eq_false hf
                have d5' : decide ((f : Int) < (s.size : Int)) = false := decide_eq_false (by omega)
                have HS := Lib.hid (HD.out.stop (fun b h => absurd h (head_end l f (by rw [HSZ.out]; exact hf) b)))
                clear hf
                go_wp2_with fail
                go_meet
                exact ⟨f, rfl, hef, by omega, rfl, HD, HS⟩
              have d5 : decide (f < s.size) = true := decide_eq_true hf
              have d5' : decide ((f : Int) < (s.size : Int)) = true := decide_eq_true (by omega)
              have hfi : (f : Int) < (s.size : Int) := by omega
              obtain ⟨x, hx⟩ : ∃ x, (s[f]'hf).toNat = x := ⟨_, rfl⟩
              have HX := Lib.hid (HBY.out f x hf hx)
              by_cases h48 : 48 ≤ x
              case neg =>
                have t6 : decide (48 ≤ x) = false := decide_eq_false h48
                have t6' : decide ((48 : Int) ≤ (x : Int)) = false := decide_eq_false (by omega)
                have HS := Lib.hid (HD.out.stop (fun b h => by rw [HX.out.1] at h; injection h with h; subst h; rw [isD_nat HX.out.2]; exact decide_eq_false (by omega)))
                clear h48
                go_wp2_with fail
                go_meet
                exact ⟨f, rfl, hef, by omega, rfl, HD, HS⟩
              have t6 : decide (48 ≤ x) = true := decide_eq_true h48
              have t6' : decide ((48 : Int) ≤ (x : Int)) = true := decide_eq_true (by omega)
              by_cases h57 : x ≤ 57
              case neg =>
                have t7 : decide (x ≤ 57) = false := decide_eq_false h57
                have t7' : decide ((x : Int) ≤ 57) = false := decide_eq_false (by omega)
                have HS := Lib.hid (HD.out.stop (fun b h => by rw [HX.out.1] at h; injection h with h; subst h; rw [isD_nat HX.out.2]; exact decide_eq_false (by omega)))
                clear h48 h57
                go_wp2_with fail
                go_meet
                exact ⟨f, rfl, hef, by omega, rfl, HD, HS⟩
              have t7 : decide (x ≤ 57) = true := decide_eq_true h57
              have t7' : decide ((x : Int) ≤ 57) = true := decide_eq_true (by omega)
              have hfl : f < l.length := by rw [HSZ.out]; exact hf
              have HD2 := Lib.hid (HD.out.step hfl (by rw [HGT.out f x hf hfl hx, isD_nat HX.out.2]; exact decide_eq_true ⟨h48, h57⟩))
              have wf : IntKind.i64.wrap ((f : Int) + 1) = ((f + 1 : Nat) : Int) := by rw [show ((f + 1 : Nat) : Int) = (f : Int) + 1 by omega]; exact IntWalk.i64_in _ ⟨by omega, by omega⟩
              clear h48 h57 hfl
              go_wp2_with fail
              go_roundg (s.size - (f + 1))
              case measure => omega
              case rel => exact ⟨f + 1, by go_num, by omega, by omega, rfl, HD2⟩
          case rest =>
            obtain ⟨f, rfl, hef, hfs, rfl, HD, HS⟩ := hcut
            have hefi : (e : Int) ≤ (f : Int) := by omega
            have hfsi : (f : Int) ≤ (s.size : Int) := by omega
            have HE := Lib.hid (HEX.out e f hef hfs)
            have HJE := Lib.hid hje
            clear x0 x1 hje hjm
            have HINT := Lib.hid (show ∀ w', Calls Tryd.prog 65 #[.string (s.extract e f)] w' (RetIB w' ((l.take f).drop e)) from fun w' => by have := refInt_any (s.extract e f) w' HE.out.2; rw [HE.out.1] at this; exact this)
            go_wp2_with fail
            refine (HINT.out _).mono ?_
            rintro _ w6 ⟨v, ok, rfl, hans, b6⟩
            have HAN := Lib.hid hans
            clear hans
            have hQ6 := hQi.below b6 hQi.lt
            have o6 := oi.call b6
            have b06 := btr bi b6 (Nat.le_of_lt hQi.lt)
            cases ok
            case false =>
              have HPN := Lib.hid (refP_none (HMi.out.bad (by rw [HS.out.1]; exact (intO_no HAN.out).1)))
              have HBX := Lib.hid (show Below w.heap.size w w6 from btr HBC.out (by rw [HQ.out]; exact b06) HBC.out.size)
              clear hQ6 o6 b06
              go_wp2_with fail
              go_ret2
              exact ⟨none, 0, 0, [], by rw [HPN.out]; rfl, OP.nil_, by rw [HPN.out]; rfl, HBX.out⟩
            case true =>
              have HV := Lib.hid (intO_yes HAN.out)
              have HVB := Lib.hid (intO_some HV.out)
              have hlt2 : e < f := HD.out.lt HV.out
              have hvw : (Lit.int .u32 v).wf = true := by
                obtain ⟨N, hN⟩ := Int.eq_ofNat_of_zero_le HVB.out.1
                have := HVB.out.2.1
                rw [hN] at this ⊢
                exact un32 (by omega)
              have hcw : IntKind.u32.wrap v = v := u32_id HVB.out.1 HVB.out.2.1
              have y1 := hQ6.cell 1
              have hzq : q ≤ w6.heap.size := by have := hQ6.lt; omega
              have hQ6a := hQ6.alloc (.cells #[.int .u32 v] 33)
              have o6a := o6.alloc (.cells #[.int .u32 v] 33)
              have HAC2 := Lib.hid (show acc.length + 1 ≤ 2001 by have := HAC.out; omega)
              have hvn := NS.one w6 hvw (g := w6.heap.size) rfl
              go_upto_region 21 with (at_builtin; refine wpl_appU rfl (.tmp 68) (.tmp 71) rfl q A2 n2 c2 acc (by rfl) o6a (w6.heap.size + 1) (some ⟨w6.heap.size, 0, none⟩) 1 1 [v] (by rfl) hvn (by have := HAC2.out; simp; omega) (by simp; omega) ?_; intro A7 n7 c7 w7 o7 b7 g7; have hQ7 := hQ6a.grown g7 (by intro e; first | exact own_blk_ne o6a.2.1 hQ6a (by decide) e | exact own_blk_ne o6a.2.1 hQ6a (by decide) e.symm); have f7 := hQ7.frozen 1; have cc7 := hQ7.cell 1)
              have hQ8 := hQ7.set_ 1 (.slice A7 n7 c7)
              simp only [List.setIfInBounds_toArray, List.set_cons_succ, List.set_cons_zero] at hQ8
              have g8 := only_setCell (World.grownBy.refl w7 (some q)) (p := ⟨q, 1, none⟩) (.inl rfl) (.slice A7 n7 c7)
              have o8 : OU (w7.setCell ⟨q, 1, none⟩ (.slice A7 n7 c7)) q A7 n7 c7 (acc ++ [v]) := ⟨o7.1, own_at o7.2.1 hQ7 (by decide) g8, o7.2.2⟩
              have b8 : Below q wB (w7.setCell ⟨q, 1, none⟩ (.slice A7 n7 c7)) := ((b06.alloc hzq (.cells #[.int .u32 v] 33)).trans b7).setCell (p := ⟨q, 1, none⟩) (Nat.le_refl _) _
              obtain ⟨w8, hw8⟩ : ∃ W, w7.setCell ⟨q, 1, none⟩ (.slice A7 n7 c7) = W := ⟨_, rfl⟩
              rw [hw8] at hQ8 o8 b8
              rw [hw8]
              clear hw8 g8 hQ7 f7 cc7 y1 hvn o6a hQ6a hQ6 o6 b06
              have z0 := hQ8.cell 0
              by_cases hf2 : f < s.size
              case neg =>
                have d8 : decide (f < s.size) = false := decide_eq_false hf2
                have d8' : decide ((f : Int) < (s.size : Int)) = false := decide_eq_false (by omega)
                have HMN := Lib.hid (HMi.out.last (by rw [HS.out.1]; exact HV.out) HS.out.2 hlt2 (by rw [HSZ.out]; exact hfs) (.inr (head_end l f (by rw [HSZ.out]; exact hf2) 44)))
                clear hf2
                go_wp2_with fail
                go_roundg (s.size - f)
                case measure => omega
                case rel => exact ⟨f, acc ++ [v], false, A7, n7, c7, rfl, rfl, by omega, (by have := HJE.out; omega), (fun _ => by have := HJE.out; omega), hQ8, o8, b8, HMN⟩
              have d8 : decide (f < s.size) = true := decide_eq_true hf2
              have d8' : decide ((f : Int) < (s.size : Int)) = true := decide_eq_true (by omega)
              have hf2i : (f : Int) < (s.size : Int) := by omega
              obtain ⟨x, hx⟩ : ∃ x, (s[f]'hf2).toNat = x := ⟨_, rfl⟩
              have HX := Lib.hid (HBY.out f x hf2 hx)
              by_cases h44 : x = 44
              case neg =>
                have t8 : ((x : Int) == 44) = false := by simp; omega
                have HMN := Lib.hid (HMi.out.last (by rw [HS.out.1]; exact HV.out) HS.out.2 hlt2 (by rw [HSZ.out]; exact hfs) (.inr (by rw [HX.out.1]; exact ofNat_ne (c := 44) HX.out.2 (by omega) h44)))
                clear h44
                go_wp2_with fail
                go_roundg (s.size - f)
                case measure => omega
                case rel => exact ⟨f, acc ++ [v], false, A7, n7, c7, rfl, rfl, by omega, (by have := HJE.out; omega), (fun _ => by have := HJE.out; omega), hQ8, o8, b8, HMN⟩
              have t8 : ((x : Int) == 44) = true := by subst h44; rfl
              have HMN := Lib.hid (HMi.out.more (by rw [HS.out.1]; exact HV.out) HS.out.2 hlt2 (by rw [HX.out.1, h44]; rfl))
              have wf2 : IntKind.i64.wrap ((f : Int) + 1) = ((f + 1 : Nat) : Int) := by rw [show ((f + 1 : Nat) : Int) = (f : Int) + 1 by omega]; exact IntWalk.i64_in _ ⟨by omega, by omega⟩
              clear h44
              go_wp2_with fail
              go_roundg (s.size - (f + 1))
              case measure => omega
              case rel => exact ⟨f + 1, acc ++ [v], true, A7, n7, c7, by go_num, rfl, by omega, (by have := HJE.out; omega), (fun h => by cases h), hQ8, o8, b8, HMN⟩
end Go.Proofs.YtlpkngjeihoknaaDoor
