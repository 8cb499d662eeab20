/- Walks of layer 3 (paths): which path bytes say, by the document. No conditions but sizes. -/
import Derived.Test.YtlpkngjeihoknaaDoorProg
import Derived.WalkKit
import Derived.WalkSpells
import Derived.WalkLawsBesides
import Derived.Outline
import Derived.Deep.QuietTactic
import Derived.BigQuiet
import Derived.Handy
import Derived.Lib.Hide
import Derived.Laws.Cover4
import Derived.OrdersHeld
import Derived.Deep.RegionHeld
import Derived.Deep.LoopGhost
import Derived.Deep.DeepCutAuto
import Derived.Deep.CutBlock
import Derived.Test.YtlpkngjeihoknaaDoorAspU
namespace Go.Proofs.YtlpkngjeihoknaaDoor
open Go.RowKit
set_option linter.unusedSimpArgs false
set_option linter.unusedVariables false
/-- A path that bytes say, or none. -/
def RetRf (w : World) (r : Option (List Seg)) (e : Ending) (w' : World) : Prop :=
  Below w.heap.size w w' ∧ match r with
  | none => e = .returned (.tuple #[.slice none 0 0, .bool false])
  | some l => ∃ (A : Option Addr) (n c : Nat) (L : List (Seg × Hd)), e = .returned (.tuple #[.slice A n c, .bool true]) ∧ OP w' w.heap.size A n c L ∧ L.map (·.1) = l
theorem ryLeft2 {Bd : Nat} (g : Nat) (l : List UInt8) (s : Bool) (w : World) (h : RY Bd w g l s) :
    Calls Tryd.prog 84 #[.pointer (some ⟨g, 0, none⟩)] w fun en w' => en = .returned (.int .i64 (if s then 0 else l.length : Nat)) ∧ Below w.heap.size w w' := by
  refine (ryLeft g l s w h).mono ?_
  rintro e w' ⟨h1, q, rfl⟩
  exact ⟨h1, below_drewN (Below.refl _ _) q⟩
set_option maxHeartbeats 8000000 in
set_option maxRecDepth 100000 in
theorem refRead03_wide (A : Option Addr) (n c : Nat) (l : List UInt8) (w : World) (h : BS w w.heap.size A n l) (hn : n ≤ 100000) :
    Calls Tryd.prog 42 #[.slice A n c, .bool true] w (RetRf w (readA true l)) := by
  have HLL := Lib.hid (show l.length ≤ 100000 by rw [← h.len]; exact hn)
  go_enter Tryd.func42, Tryd.ntmps42
  go_upto_region 6 with fail
  obtain ⟨w1, hw1, hX, b1⟩ := box1c w #[.slice A n c, .int .i64 0, .bool false] 95
  try rw [hw1]
  clear hw1
  have hXl := hX.lt
  have r1x : RY w1.heap.size w1 w.heap.size l false := ⟨A, n, c, 0, l, hX, ⟨Nat.zero_le _, Nat.le_refl _⟩, h.call b1, hn, rfl⟩
  obtain ⟨g, hg⟩ : ∃ g, w.heap.size = g := ⟨_, rfl⟩
  obtain ⟨Bd, hBd⟩ : ∃ Bd, w1.heap.size = Bd := ⟨_, rfl⟩
  have r1 : RY Bd w1 g l false := by rw [← hg, ← hBd]; exact r1x
  have hgl : g < Bd := by rw [← hg, ← hBd]; exact hXl
  have HWB := Lib.hid (show w.heap.size ≤ Bd by rw [← hBd]; exact b1.size)
  have HWG := Lib.hid (show w.heap.size ≤ g from Nat.le_of_eq hg)
  have HBD := Lib.hid hBd
  have HG := Lib.hid hg
  clear hBd hg hX hXl r1x
  try rw [HG.out]
  go_wp2_with fail
  go_loopw [6, 9] (fun x i wr => ∃ (j : Nat) (L : List (Seg × Hd)) (A1 : Option Addr) (c1 : Nat) (t : List UInt8) (s : Bool), j ≤ 9 ∧ i = .int .i64 (j : Int) ∧ x = .slice A1 j c1 ∧ OP wr Bd A1 j c1 L ∧ RY Bd wr g t s ∧ Hid (InvO (szA true) l (L.map (·.1)) (9 - j) t s) ∧ Below w.heap.size w wr ∧ Bd ≤ wr.heap.size) (fun _ i _ => 9 - (intOf i).toNat)
  case atStart => exact ⟨0, [], none, 0, l, false, by omega, rfl, rfl, OP.nil_, r1, Lib.hid (InvO.start _ _), b1, Nat.le_of_eq HBD.out.symm⟩
  case round =>
    obtain ⟨j, L, A1, c1, t, s, hj, rfl, rfl, ho, r, HI, hb, hbd⟩ := hrel
    obtain ⟨wo, rfl⟩ : ∃ wo, wo = wr := ⟨_, rfl⟩
    have HTL := Lib.hid (show t.length ≤ 100000 from Nat.le_trans HI.out.2.1 HLL.out)
    obtain ⟨T, hT⟩ : ∃ T, (if s then 0 else t.length) = T := ⟨_, rfl⟩
    have HLF := Lib.hid (show ∀ w', RY Bd w' g t s → Calls Tryd.prog 84 #[.pointer (some ⟨g, 0, none⟩)] w' fun en w'' => en = .returned (.int .i64 (T : Nat)) ∧ Below w'.heap.size w' w'' from fun w' h => by rw [← hT]; exact ryLeft2 g t s w' h)
    have HT := Lib.hid hT
    clear hT
    by_cases hj9 : j = 9
    case pos =>
      have d1 : decide (j < 9) = false := decide_eq_false (by omega)
      have d1' : decide ((j : Int) < 9) = false := decide_eq_false (by omega)
      have HJ9 := Lib.hid hj9
      clear hj9
      have hsh := r.short
      cases s
      case true =>
        have HM := Lib.hid (show readA true l = none from HI.out.bad)
        go_wp2_with fail
        go_ret2
        refine ⟨hb, ?_⟩
        rw [HM.out]
        rfl
      case false =>
        have HTN : t.length = T := by have := HT.out; simpa using this
        have HTN := Lib.hid HTN
        go_wp2_with fail
        refine (HLF.out _ r).mono ?_
        rintro _ w2 ⟨rfl, b2⟩
        have hb2 := btr hb b2 hb.size
        have ho2 := ho.call b2
        by_cases hT0 : T = 0
        case pos =>
          subst hT0
          have HT0 := Lib.hid (show t = [] from List.eq_nil_of_length_eq_zero HTN.out)
          have HM := Lib.hid (show readA true l = if rightA (L.map (·.1)) = true then some (L.map (·.1)) else none from HI.out.good (.inl HT0.out))
          have hdl := ho2.dl
          obtain ⟨rr, hrr⟩ : ∃ rr, rightA (L.map (·.1)) = rr := ⟨_, rfl⟩
          have HRR := Lib.hid hrr
          have HRI := Lib.hid (show ∀ w', DL rSeg 2 w' (Lo w') A1 j (L.map (·.1)) → Calls Tryd.prog 20 #[.slice A1 j c1] w' fun en w'' => en = .returned (.bool rr) ∧ Below w'.heap.size w' w'' from fun w' h => by rw [← hrr]; exact refRight03 A1 j c1 _ w' h (by omega))
          clear hrr
          go_wp2_with fail
          refine (HRI.out _ hdl).mono ?_
          rintro _ w9 ⟨rfl, b9⟩
          have ho9 := ho2.call b9
          have b09 := btr hb2 b9 (hb2).size
          cases rr
          case true =>
            have HM2 := Lib.hid (show readA true l = some (L.map (·.1)) by rw [HM.out, HRR.out]; rfl)
            go_wp2_with fail
            go_ret2
            refine ⟨b09, ?_⟩
            rw [HM2.out]
            exact ⟨A1, j, c1, L, rfl, ho9.low HWB.out, rfl⟩
          case false =>
            have HM2 := Lib.hid (show readA true l = none by rw [HM.out, HRR.out]; rfl)
            go_wp2_with fail
            go_ret2
            refine ⟨b09, ?_⟩
            rw [HM2.out]
            rfl
        have d2 : decide (0 < T) = true := decide_eq_true (by omega)
        have HM := Lib.hid (show readA true l = none from HI.out.none_ (.inr (.inr (by have := HJ9.out; omega))) (rightA_long (by have h1 := HI.out.1; have h2 := HJ9.out; simp at h1 ⊢; omega)))
        clear hT0
        go_wp2_with fail
        go_ret2
        refine ⟨hb2, ?_⟩
        rw [HM.out]
        rfl
    have hj8 : j < 9 := by omega
    have d1 : decide (j < 9) = true := decide_eq_true hj8
    have d1' : decide ((j : Int) < 9) = true := decide_eq_true (by omega)
    clear hj9
    by_cases hT0 : T = 0
    case pos =>
      subst hT0
      go_wp2_with fail
      refine (HLF.out _ r).mono ?_
      rintro _ w2 ⟨rfl, b2⟩
      have hb2 := btr hb b2 hb.size
      have ho2 := ho.call b2
      have r2 := r.below b2 hbd r.lt
      have hsh := r2.short
      cases s
      case true =>
        have HM := Lib.hid (show readA true l = none from HI.out.bad)
        go_wp2_with fail
        go_ret2
        refine ⟨hb2, ?_⟩
        rw [HM.out]
        rfl
      case false =>
        have HT0 := Lib.hid (show t = [] from List.eq_nil_of_length_eq_zero (by have := HT.out; simpa using this))
        go_wp2_with fail
        refine (HLF.out _ r2).mono ?_
        rintro _ w3 ⟨rfl, b3⟩
        have hb3 := btr hb2 b3 hb2.size
        have ho3 := ho2.call b3
        have HM := Lib.hid (show readA true l = if rightA (L.map (·.1)) = true then some (L.map (·.1)) else none from HI.out.good (.inl HT0.out))
        have hdl := ho3.dl
        obtain ⟨rr, hrr⟩ : ∃ rr, rightA (L.map (·.1)) = rr := ⟨_, rfl⟩
        have HRR := Lib.hid hrr
        have HRI := Lib.hid (show ∀ w', DL rSeg 2 w' (Lo w') A1 j (L.map (·.1)) → Calls Tryd.prog 20 #[.slice A1 j c1] w' fun en w'' => en = .returned (.bool rr) ∧ Below w'.heap.size w' w'' from fun w' h => by rw [← hrr]; exact refRight03 A1 j c1 _ w' h (by omega))
        clear hrr
        go_wp2_with fail
        refine (HRI.out _ hdl).mono ?_
        rintro _ w9 ⟨rfl, b9⟩
        have ho9 := ho3.call b9
        have b09 := btr hb3 b9 (hb3).size
        cases rr
        case true =>
          have HM2 := Lib.hid (show readA true l = some (L.map (·.1)) by rw [HM.out, HRR.out]; rfl)
          go_wp2_with fail
          go_ret2
          refine ⟨b09, ?_⟩
          rw [HM2.out]
          exact ⟨A1, j, c1, L, rfl, ho9.low HWB.out, rfl⟩
        case false =>
          have HM2 := Lib.hid (show readA true l = none by rw [HM.out, HRR.out]; rfl)
          go_wp2_with fail
          go_ret2
          refine ⟨b09, ?_⟩
          rw [HM2.out]
          rfl
    have hTp : 0 < T := by omega
    have d2 : decide (0 < T) = true := decide_eq_true hTp
    clear hT0
    have hsf : s = false := by cases s; rfl; exact absurd HT.out (by simp; omega)
    subst hsf
    have HTL2 := Lib.hid (show t.length = T by have := HT.out; simpa using this)
    have HI2 := Lib.hid (show InvO (szA true) l (L.map (·.1)) ((9 - (j + 1)) + 1) t false by rw [show 9 - (j + 1) + 1 = 9 - j by omega]; exact HI.out)
    obtain ⟨K, t1, s1, E1⟩ : ∃ v1 l1 s1, numL (tkOut t false (1 : Nat)) = v1 ∧ tkLeft t false (1 : Nat) = l1 ∧ tkShort t false (1 : Nat) = s1 := ⟨_, _, _, rfl, rfl, rfl⟩
    obtain ⟨C, t2, s2, E2⟩ : ∃ v1 l1 s', numL (tkOut t1 s1 (1 : Nat)) = v1 ∧ tkLeft t1 s1 (1 : Nat) = l1 ∧ tkShort t1 s1 (1 : Nat) = s' := ⟨_, _, _, rfl, rfl, rfl⟩
    have hC : C ≤ 255 := by rw [← E2.1]; have := tkOut_num t1 s1 1; omega
    have hK : K ≤ 255 := by rw [← E1.1]; have := tkOut_num t false 1; omega
    have HL1 := Lib.hid (show t1.length ≤ t.length by rw [← E1.2.1]; exact tkLeft_len _ _ _)
    have HL2 := Lib.hid (show t2.length ≤ t1.length by rw [← E2.2.1]; exact tkLeft_len _ _ _)
    have HB1 := Lib.hid (show ∀ w', RY Bd w' g t false → Calls Tryd.prog 85 #[.pointer (some ⟨g, 0, none⟩), .int .i64 1] w' fun en w'' => en = .returned (.int .i64 (K : Nat)) ∧ RY Bd w'' g t1 s1 ∧ w'.grownBy w'' (some g) from fun w' h => by have := ryNum g t false 1 w' h (by omega); rw [E1.1, E1.2.1, E1.2.2] at this; exact this)
    have HB2 := Lib.hid (show ∀ w', RY Bd w' g t1 s1 → Calls Tryd.prog 85 #[.pointer (some ⟨g, 0, none⟩), .int .i64 1] w' fun en w'' => en = .returned (.int .i64 (C : Nat)) ∧ RY Bd w'' g t2 s2 ∧ w'.grownBy w'' (some g) from fun w' h => by have := ryNum g t1 s1 1 w' h (by omega); rw [E2.1, E2.2.1, E2.2.2] at this; exact this)
    have HE1 := Lib.hid E1
    have HE2 := Lib.hid E2
    clear E1 E2
    have HNE := Lib.hid (show t ≠ [] from fun e => by have h1 := HTL2.out; rw [e] at h1; simp at h1; omega)
    obtain ⟨cs0, hrb⟩ := r.blk
    have wj : IntKind.i64.wrap ((j : Int) + 1) = ((j + 1 : Nat) : Int) := by rw [show ((j + 1 : Nat) : Int) = (j : Int) + 1 by omega]; exact IntWalk.i64_in _ ⟨by omega, by omega⟩
    go_wp2_with fail
    refine (HLF.out _ r).mono ?_
    rintro _ w0 ⟨rfl, bb⟩
    have z0 := bb.size
    have r0 := r.below bb hbd r.lt
    have gg0 : wo.grownBy w0 (some g) := grown_none (c := w0) bb
    go_wp2_with fail
    refine (HB1.out _ r0).mono ?_
    rintro _ w2 ⟨rfl, r2, g2x⟩
    have g2 := grown_tr gg0 g2x
    have z2 := g2.size
    go_wp2_with fail
    obtain ⟨w3, hw3, hQ3, b3⟩ := box1c w2 #[.int .i64 K, .slice none 0 0] 73
    try rw [hw3]
    clear hw3
    have hQl3 := hQ3.lt
    obtain ⟨q, hq⟩ : ∃ q, w2.heap.size = q := ⟨_, rfl⟩
    have g3 := grown_below g2 (b3.mono z2)
    have r3 := r2.below b3 (by omega) (by omega)
    rw [hq] at hQ3 hQl3
    try rw [hq]
    have hqo : wo.heap.size ≤ q := by omega
    clear hq b3
    refine (HB2.out _ r3).mono ?_
    rintro _ w4 ⟨rfl, r4, g4⟩
    have z4 := g4.size
    have hgq : q ≠ g := by omega
    have hQ4 := hQ3.grown g4 (by intro e; injection e with e; omega)
    have g04 := grown_tr g3 g4
    obtain ⟨B4, hB4⟩ : ∃ B4, w4.heap.size = B4 := ⟨_, rfl⟩
    have HB4 := Lib.hid hB4
    have hqB : q < B4 := by rw [← hB4]; omega
    have hoB : wo.heap.size ≤ B4 := by omega
    clear hB4
    have HII := Lib.hid (InvN.start (szA true) C t2 s2)
    go_wp2_with fail
    go_loopw [12] (fun x wi => ∃ (k : Nat) (acc : List Int) (A2 : Option Addr) (n2 c2 : Nat) (t3 : List UInt8) (s3 : Bool), x = .int .i64 (k : Int) ∧ k ≤ C ∧ RY Bd wi g t3 s3 ∧ Blk wi q 73 #[.int .i64 K, .slice A2 n2 c2] ∧ OU wi B4 A2 n2 c2 acc ∧ wo.grownBy wi (some g) ∧ B4 ≤ wi.heap.size ∧ Hid (InvN (szA true) C t2 s2 acc (C - k) t3 s3)) (fun x _ => C - (intOf x).toNat)
    case atStart => exact ⟨0, [], none, 0, 0, t2, s2, rfl, Nat.zero_le _, r4, hQ4, OU.nil_, g04, Nat.le_of_eq HB4.out.symm, HII⟩
    case round =>
      obtain ⟨k, acc, A2, n2, c2, t3, s3, rfl, hkC, ri, hQi, oi, gi, zi, HIi⟩ := hrel
      have HA := Lib.hid (show acc.length ≤ 255 by have := HIi.out.1; omega)
      have hsh := ri.short
      by_cases hkc : k = C
      case pos =>
        have d4 : decide (k < C) = false := decide_eq_false (by omega)
        have HIi := Lib.hid (show InvN (szA true) C t2 s2 acc 0 t3 s3 by have := HIi.out; rw [hkc, Nat.sub_self] at this; exact this)
        clear hkc
        have HIO := Lib.hid (HI2.out.step HNE.out HE1.out HE2.out HIi.out (.inr rfl))
        have hoi := ho.at_g hrb (by decide) (by decide) gi
        have bi := at_below hb gi hb.size (by have := HWG.out; omega)
        have oa := own_alloc2 hoi.2.1 (.cells #[.int .i64 K, .slice A2 n2 c2] 73)
        have B5 := bi.alloc bi.size (.cells #[.int .i64 K, .slice A2 n2 c2] 73)
        have HOP := (hoi.call ((Below.refl wr.heap.size wr).alloc (Nat.le_refl _) (.cells #[.int .i64 K, .slice A2 n2 c2] 73)))
        have hwB : Bd ≤ B4 := by omega
        have o3a := (oi.alloc (.cells #[.int .i64 K, .slice A2 n2 c2] 73)).low hwB
        have HAP := Lib.hid (ho.apt (y := (((K : Int), acc), (A2, n2, c2))) oi hoB)
        have ra := ri.below ((Below.refl wr.heap.size wr).alloc (Nat.le_refl _) (.cells #[.int .i64 K, .slice A2 n2 c2] 73)) (by omega) ri.lt
        have x0 : wr.cell? ⟨q, 0, none⟩ = some (.int .i64 (K : Int)) := hQi.cell 0
        have x1 : wr.cell? ⟨q, 1, none⟩ = some (.slice A2 n2 c2) := hQi.cell 1
        go_wp2_with (at_builtin; refine wpl_appR rfl (.tmp 52) (.tmp 54) 22 rfl 73 _ 2 32 Tryd.underlying22 seg_info rfl (by omega) Bd _ j _ _ (by rfl) oa (wr.heap.size + 1) (some ⟨wr.heap.size, 0, none⟩) 1 1 [.int .i64 K, .slice A2 n2 c2] (by rfl) (Reads.two wr 73 (.int .i64 K) (.slice A2 n2 c2) rfl) (by intro u hu; simp at hu; rcases hu with rfl | rfl <;> rfl) (by unfold maxLen; omega) (by omega) (by simp; omega) ?_; intro A6 c6 w6 o6 b6 g6 _)
        have hO6 := HOP.push (y := (((K : Int), acc), (A2, n2, c2))) o3a HAP.out o6 g6
        have r6 := ra.grown g6 (fun k hk => by
          have h1 := (hoi.2.1.lt k hk).1
          exact ⟨by omega, by omega⟩)
        have z6 := b6.size
        go_roundw
        case rel => exact ⟨j + 1, L ++ [(((K : Int), acc), (A2, n2, c2))], A6, c6, t3, _, by omega, rfl, rfl, hO6, r6, Lib.hid (by rw [List.map_append]; exact HIO.out), B5.trans (b6.mono HWB.out), by simp at z6; omega⟩
        case measure => simp [intOf]; omega
      have hkp : k < C := by omega
      have d4 : decide (k < C) = true := decide_eq_true hkp
      have HKP := Lib.hid hkp
      clear hkc
      cases s3
      case true =>
        have HIO := Lib.hid (HI2.out.step HNE.out HE1.out HE2.out HIi.out (.inl rfl))
        have hoi := ho.at_g hrb (by decide) (by decide) gi
        have bi := at_below hb gi hb.size (by have := HWG.out; omega)
        have oa := own_alloc2 hoi.2.1 (.cells #[.int .i64 K, .slice A2 n2 c2] 73)
        have B5 := bi.alloc bi.size (.cells #[.int .i64 K, .slice A2 n2 c2] 73)
        have HOP := (hoi.call ((Below.refl wr.heap.size wr).alloc (Nat.le_refl _) (.cells #[.int .i64 K, .slice A2 n2 c2] 73)))
        have hwB : Bd ≤ B4 := by omega
        have o3a := (oi.alloc (.cells #[.int .i64 K, .slice A2 n2 c2] 73)).low hwB
        have HAP := Lib.hid (ho.apt (y := (((K : Int), acc), (A2, n2, c2))) oi hoB)
        have ra := ri.below ((Below.refl wr.heap.size wr).alloc (Nat.le_refl _) (.cells #[.int .i64 K, .slice A2 n2 c2] 73)) (by omega) ri.lt
        have x0 : wr.cell? ⟨q, 0, none⟩ = some (.int .i64 (K : Int)) := hQi.cell 0
        have x1 : wr.cell? ⟨q, 1, none⟩ = some (.slice A2 n2 c2) := hQi.cell 1
        go_wp2_with (at_builtin; refine wpl_appR rfl (.tmp 52) (.tmp 54) 22 rfl 73 _ 2 32 Tryd.underlying22 seg_info rfl (by omega) Bd _ j _ _ (by rfl) oa (wr.heap.size + 1) (some ⟨wr.heap.size, 0, none⟩) 1 1 [.int .i64 K, .slice A2 n2 c2] (by rfl) (Reads.two wr 73 (.int .i64 K) (.slice A2 n2 c2) rfl) (by intro u hu; simp at hu; rcases hu with rfl | rfl <;> rfl) (by unfold maxLen; omega) (by omega) (by simp; omega) ?_; intro A6 c6 w6 o6 b6 g6 _)
        have hO6 := HOP.push (y := (((K : Int), acc), (A2, n2, c2))) o3a HAP.out o6 g6
        have r6 := ra.grown g6 (fun k hk => by
          have h1 := (hoi.2.1.lt k hk).1
          exact ⟨by omega, by omega⟩)
        have z6 := b6.size
        go_roundw
        case rel => exact ⟨j + 1, L ++ [(((K : Int), acc), (A2, n2, c2))], A6, c6, t3, _, by omega, rfl, rfl, hO6, r6, Lib.hid (by rw [List.map_append]; exact HIO.out), B5.trans (b6.mono HWB.out), by simp at z6; omega⟩
        case measure => simp [intOf]; omega
      case false =>
        have HIi2 := Lib.hid (show InvN 4 C t2 s2 acc ((C - (k + 1)) + 1) t3 false by rw [show C - (k + 1) + 1 = C - k by omega]; exact HIi.out)
        have wk : IntKind.i64.wrap ((k : Int) + 1) = ((k + 1 : Nat) : Int) := by rw [show ((k + 1 : Nat) : Int) = (k : Int) + 1 by omega]; exact IntWalk.i64_in _ ⟨by omega, by omega⟩
        have hQd : Blk wr.drew q 73 #[.int .i64 K, .slice A2 n2 c2] := hQi
        have rid : RY Bd wr.drew g t3 false := ri
        have oid : OU wr.drew B4 A2 n2 c2 acc := oi
        have gid : wo.grownBy wr.drew (some g) := ⟨gi.os, gi.tape, gi.output, gi.size, gi.block⟩
        have zid : B4 ≤ wr.drew.heap.size := zi
        have q1d := hQd.cell 1
        have hgo : g < wo.heap.size := hrb.lt
        obtain ⟨V, t4, s4, E3⟩ : ∃ v1 l1 s', numL (tkOut t3 false (4 : Nat)) = v1 ∧ tkLeft t3 false (4 : Nat) = l1 ∧ tkShort t3 false (4 : Nat) = s' := ⟨_, _, _, rfl, rfl, rfl⟩
        have HV := Lib.hid (show V < 4294967296 by rw [← E3.1]; have := tkOut_num t3 false 4; omega)
        have HB3 := Lib.hid (show ∀ w', RY Bd w' g t3 false → Calls Tryd.prog 85 #[.pointer (some ⟨g, 0, none⟩), .int .i64 4] w' fun en w'' => en = .returned (.int .i64 (V : Nat)) ∧ RY Bd w'' g t4 s4 ∧ w'.grownBy w'' (some g) from fun w' h => by have := ryNum g t3 false 4 w' h (by omega); rw [E3.1, E3.2.1, E3.2.2] at this; exact this)
        have HIN := Lib.hid (show InvN (szA true) C t2 s2 (acc ++ [(V : Int)]) (C - (k + 1)) t4 s4 by have := HIi2.out.step; rw [E3.1, E3.2.1, E3.2.2] at this; exact this)
        have hvw : (Lit.int .u32 (V : Int)).wf = true := un32 (by have := HV.out; omega)
        have hcw : IntKind.u32.wrap (V : Int) = (V : Int) := by rw [IntKind.wrap_u32]; have := HV.out; omega
        clear E3
        go_upto_region 14 with fail
        rename_i hk
        have HKK := Lib.hid hk
        clear hk
        refine wp_region_held_drew (S := (fun _ => True)) (by kernel_rfl) ?_ (fun hHeld => ?_)
        · first | done | trivial
        refine wpAnyH_take (i := 0) (v := ?wpv0) rfl (by kernel_rfl) (by kernel_rfl) (by kernel_rfl) (by intro _ _ _ h; exact h) (Or.inl ⟨by rfl, ?wphy0⟩) (by assumption) ?wprest0
        case wphy0 => (intro w hSw; (try dsimp only at hSw); go_simp; try with_reducible rfl)
        try simp only [Act.put, List.getElem_toArray, List.getElem_cons_succ, List.getElem_cons_zero, List.setIfInBounds_toArray, List.set_cons_zero, List.set_cons_succ]
        refine wpAnyH_take (i := 2) (v := ?wpv2) rfl (by kernel_rfl) (by kernel_rfl) (by kernel_rfl) (by intro _ _ _ h; exact h) (Or.inl ⟨by rfl, ?wphy2⟩) (by assumption) ?wprest2
        case wphy2 => (intro w hSw; (try dsimp only at hSw); go_simp; try with_reducible rfl)
        try simp only [Act.put, List.getElem_toArray, List.getElem_cons_succ, List.getElem_cons_zero, List.setIfInBounds_toArray, List.set_cons_zero, List.set_cons_succ]
        refine wpAnyH_take (i := 3) (v := ?wpv3) rfl (by kernel_rfl) (by kernel_rfl) (by kernel_rfl) (by intro _ _ _ h; exact h) (Or.inl ⟨by rfl, ?wphy3⟩) (by assumption) ?wprest3
        case wphy3 => (intro w hSw; (try dsimp only at hSw); go_simp; try with_reducible rfl)
        try simp only [Act.put, List.getElem_toArray, List.getElem_cons_succ, List.getElem_cons_zero, List.setIfInBounds_toArray, List.set_cons_zero, List.set_cons_succ]
        refine wpAnyH_ready (rs := [1, 4]) (by kernel_rfl) (by simp) ?_
        refine AllReadyH.cons rfl (fun K hK => ?_) (AllReadyH.cons rfl (fun K hK => ?_) AllReadyH.nil)
        · skip
          go_simp
          go_wp2_with (fail)
          refine hK.out _ _ trivial (fun hHeld => ?_)
          clear hK K
          refine wpAnyH_ready (rs := [4]) (by kernel_rfl) (by simp) ?_
          refine AllReadyH.cons rfl (fun K hK => ?_) AllReadyH.nil
          go_simp
          go_wp2_with ((go_at_call 85; refine (HB3.out _ rid).mono ?_; rintro _ w5 ⟨rfl, r5, g5⟩; have z5 := g5.size; have hQ5 := hQd.grown g5 (by intro e; injection e with e; omega); have q15 := hQ5.cell 1; obtain ⟨cs1, hrb1⟩ := rid.blk; have o5 := oid.at_g hrb1 (by decide) g5; have al5 := o5.alloc (.cells #[.int .u32 (V : Int)] 33); have hQ5a := hQ5.alloc (.cells #[.int .u32 (V : Int)] 33); have q15a := hQ5a.cell 1; have r5a := r5.below ((Below.refl w5.heap.size w5).alloc (Nat.le_refl _) (.cells #[.int .u32 (V : Int)] 33)) (by omega) r5.lt; have g05 := grown_tr gid g5; have HSZ5 := Lib.hid (show B4 ≤ (w5.alloc (.cells #[.int .u32 (V : Int)] 33)).heap.size by simp; omega)))
          refine hK.out _ _ trivial (fun hHeld => ?_)
          clear hK K
          refine wpAnyH_take (i := 5) (v := ?wav5) rfl (by kernel_rfl) (by kernel_rfl) (by kernel_rfl) (by intro _ _ _ h; exact h) (Or.inl ⟨by rfl, ?wahy5⟩) (by assumption) ?warest5
          case wahy5 => (intro w hSw; (try dsimp only at hSw); go_simp; try with_reducible rfl)
          try simp only [Act.put, List.getElem_toArray, List.getElem_cons_succ, List.getElem_cons_zero, List.setIfInBounds_toArray, List.set_cons_zero, List.set_cons_succ]
          refine wpAnyH_ready (rs := [6]) (by kernel_rfl) (by simp) ?_
          refine AllReadyH.cons rfl (fun K hK => ?_) AllReadyH.nil
          go_simp
          go_wp2_with (fail)
          refine hK.out _ _ trivial (fun hHeld => ?_)
          clear hK K
          refine wpAnyH_ready (rs := [7]) (by kernel_rfl) (by simp) ?_
          refine AllReadyH.cons rfl (fun K hK => ?_) AllReadyH.nil
          refine step_appU rfl (.tmp 44) (.tmp 49) rfl B4 A2 n2 c2 acc (by rfl) al5 (w5.heap.size + 1) (some ⟨w5.heap.size, 0, none⟩) 1 1 [(V : Int)] (by rfl) (NS.one w5 hvw rfl) (by have := HA.out; simp; omega) HSZ5.out ?_; intro A6 n6 c6 w6 o6 b6 g6 hat; have hQ6 := hQ5a.grown g6 (by intro e; first | exact own_blk_ne al5.2.1 hQ5a (by decide) e | exact own_blk_ne al5.2.1 hQ5a (by decide) e.symm); have f1 := hQ6.frozen 1; have q16 := hQ6.cell 1
          refine hK.out _ _ ?_ (fun hHeld => ?_)
          · try dsimp only
            first | done | trivial
          clear hK K
          refine wpAnyH_take (i := 8) (v := ?wbv8) rfl (by kernel_rfl) (by kernel_rfl) (by kernel_rfl) (by intro _ _ _ h; exact h) (Or.inl ⟨by rfl, ?wbhy8⟩) (by assumption) ?wbrest8
          case wbhy8 => (intro w hSw; (try dsimp only at hSw); go_simp; try with_reducible rfl)
          try simp only [Act.put, List.getElem_toArray, List.getElem_cons_succ, List.getElem_cons_zero, List.setIfInBounds_toArray, List.set_cons_zero, List.set_cons_succ]
          refine wpAnyH_ready (rs := [9]) (by kernel_rfl) (by simp) ?_
          refine AllReadyH.cons rfl (fun K hK => ?_) AllReadyH.nil
          go_simp
          go_wp2_with (fail)
          refine hK.out _ _ ?_ (fun hHeld => ?_)
          · try dsimp only
            first | done | trivial
          clear hK K
          refine wpAnyH_done (by kernel_rfl) ?_ _
          refine HKK.out _ _ ?_
          have r6 := r5a.grown g6 (fun k hk => by
            have h1 := (al5.2.1.lt k hk).1
            exact ⟨by omega, by omega⟩)
          have hQ7 := hQ6.set_ 1 (.slice A6 n6 c6)
          simp only [List.setIfInBounds_toArray, List.set_cons_succ, List.set_cons_zero] at hQ7
          have gq := only_setCell (World.grownBy.refl w6 (some q)) (p := ⟨q, 1, none⟩) (.inl rfl) (.slice A6 n6 c6)
          have o7 := o6.at_g hQ6 (by decide) gq
          have r7 := r6.setCell (p := ⟨q, 1, none⟩) (by show Bd ≤ q; omega) (by show q ≠ g; omega) (.slice A6 n6 c6)
          have b57 : Below wo.heap.size w5 (w6.setCell ⟨q, 1, none⟩ (.slice A6 n6 c6)) := (((Below.refl wo.heap.size w5).alloc (by omega) (.cells #[.int .u32 (V : Int)] 33)).trans (b6.mono (by omega))).setCell (p := ⟨q, 1, none⟩) (by show wo.heap.size ≤ q; omega) (.slice A6 n6 c6)
          have g07 := grown_below g05 b57
          have z7 : B4 ≤ (w6.setCell ⟨q, 1, none⟩ (.slice A6 n6 c6)).heap.size := by have h1 := b6.size; have h2 := HSZ5.out; simp [World.setCell] at h1 h2 ⊢; omega
          clear q16 f1 q15 q15a q1d
          go_wp2_with fail
          go_roundw
          case rel => exact ⟨k + 1, acc ++ [(V : Int)], A6, n6, c6, t4, s4, rfl, by omega, r7, hQ7, o7, g07, z7, HIN⟩
          case measure => have := HKP.out; simp [intOf]; omega
        · skip
          go_simp
          go_wp2_with ((go_at_call 85; refine (HB3.out _ rid).mono ?_; rintro _ w5 ⟨rfl, r5, g5⟩; have z5 := g5.size; have hQ5 := hQd.grown g5 (by intro e; injection e with e; omega); have q15 := hQ5.cell 1; obtain ⟨cs1, hrb1⟩ := rid.blk; have o5 := oid.at_g hrb1 (by decide) g5; have al5 := o5.alloc (.cells #[.int .u32 (V : Int)] 33); have hQ5a := hQ5.alloc (.cells #[.int .u32 (V : Int)] 33); have q15a := hQ5a.cell 1; have r5a := r5.below ((Below.refl w5.heap.size w5).alloc (Nat.le_refl _) (.cells #[.int .u32 (V : Int)] 33)) (by omega) r5.lt; have g05 := grown_tr gid g5; have HSZ5 := Lib.hid (show B4 ≤ (w5.alloc (.cells #[.int .u32 (V : Int)] 33)).heap.size by simp; omega)))
          refine hK.out _ _ trivial (fun hHeld => ?_)
          clear hK K
          refine wpAnyH_take (i := 5) (v := ?wcv5) rfl (by kernel_rfl) (by kernel_rfl) (by kernel_rfl) (by intro _ _ _ h; exact h) (Or.inl ⟨by rfl, ?wchy5⟩) (by assumption) ?wcrest5
          case wchy5 => (intro w hSw; (try dsimp only at hSw); go_simp; try with_reducible rfl)
          try simp only [Act.put, List.getElem_toArray, List.getElem_cons_succ, List.getElem_cons_zero, List.setIfInBounds_toArray, List.set_cons_zero, List.set_cons_succ]
          refine wpAnyH_ready (rs := [1, 6]) (by kernel_rfl) (by simp) ?_
          refine AllReadyH.cons rfl (fun K hK => ?_) (AllReadyH.cons rfl (fun K hK => ?_) AllReadyH.nil)
          · skip
            go_simp
            go_wp2_with (fail)
            refine hK.out _ _ trivial (fun hHeld => ?_)
            clear hK K
            refine wpAnyH_ready (rs := [6]) (by kernel_rfl) (by simp) ?_
            refine AllReadyH.cons rfl (fun K hK => ?_) AllReadyH.nil
            go_simp
            go_wp2_with (fail)
            refine hK.out _ _ trivial (fun hHeld => ?_)
            clear hK K
            refine wpAnyH_ready (rs := [7]) (by kernel_rfl) (by simp) ?_
            refine AllReadyH.cons rfl (fun K hK => ?_) AllReadyH.nil
            refine step_appU rfl (.tmp 44) (.tmp 49) rfl B4 A2 n2 c2 acc (by rfl) al5 (w5.heap.size + 1) (some ⟨w5.heap.size, 0, none⟩) 1 1 [(V : Int)] (by rfl) (NS.one w5 hvw rfl) (by have := HA.out; simp; omega) HSZ5.out ?_; intro A6 n6 c6 w6 o6 b6 g6 hat; have hQ6 := hQ5a.grown g6 (by intro e; first | exact own_blk_ne al5.2.1 hQ5a (by decide) e | exact own_blk_ne al5.2.1 hQ5a (by decide) e.symm); have f1 := hQ6.frozen 1; have q16 := hQ6.cell 1
            refine hK.out _ _ ?_ (fun hHeld => ?_)
            · try dsimp only
              first | done | trivial
            clear hK K
            refine wpAnyH_take (i := 8) (v := ?wdv8) rfl (by kernel_rfl) (by kernel_rfl) (by kernel_rfl) (by intro _ _ _ h; exact h) (Or.inl ⟨by rfl, ?wdhy8⟩) (by assumption) ?wdrest8
            case wdhy8 => (intro w hSw; (try dsimp only at hSw); go_simp; try with_reducible rfl)
            try simp only [Act.put, List.getElem_toArray, List.getElem_cons_succ, List.getElem_cons_zero, List.setIfInBounds_toArray, List.set_cons_zero, List.set_cons_succ]
            refine wpAnyH_ready (rs := [9]) (by kernel_rfl) (by simp) ?_
            refine AllReadyH.cons rfl (fun K hK => ?_) AllReadyH.nil
            go_simp
            go_wp2_with (fail)
            refine hK.out _ _ ?_ (fun hHeld => ?_)
            · try dsimp only
              first | done | trivial
            clear hK K
            refine wpAnyH_done (by kernel_rfl) ?_ _
            refine HKK.out _ _ ?_
            have r6 := r5a.grown g6 (fun k hk => by
              have h1 := (al5.2.1.lt k hk).1
              exact ⟨by omega, by omega⟩)
            have hQ7 := hQ6.set_ 1 (.slice A6 n6 c6)
            simp only [List.setIfInBounds_toArray, List.set_cons_succ, List.set_cons_zero] at hQ7
            have gq := only_setCell (World.grownBy.refl w6 (some q)) (p := ⟨q, 1, none⟩) (.inl rfl) (.slice A6 n6 c6)
            have o7 := o6.at_g hQ6 (by decide) gq
            have r7 := r6.setCell (p := ⟨q, 1, none⟩) (by show Bd ≤ q; omega) (by show q ≠ g; omega) (.slice A6 n6 c6)
            have b57 : Below wo.heap.size w5 (w6.setCell ⟨q, 1, none⟩ (.slice A6 n6 c6)) := (((Below.refl wo.heap.size w5).alloc (by omega) (.cells #[.int .u32 (V : Int)] 33)).trans (b6.mono (by omega))).setCell (p := ⟨q, 1, none⟩) (by show wo.heap.size ≤ q; omega) (.slice A6 n6 c6)
            have g07 := grown_below g05 b57
            have z7 : B4 ≤ (w6.setCell ⟨q, 1, none⟩ (.slice A6 n6 c6)).heap.size := by have h1 := b6.size; have h2 := HSZ5.out; simp [World.setCell] at h1 h2 ⊢; omega
            clear q16 f1 q15 q15a q1d
            go_wp2_with fail
            go_roundw
            case rel => exact ⟨k + 1, acc ++ [(V : Int)], A6, n6, c6, t4, s4, rfl, by omega, r7, hQ7, o7, g07, z7, HIN⟩
            case measure => have := HKP.out; simp [intOf]; omega
          · skip
            go_simp
            go_wp2_with (fail)
            refine hK.out _ _ trivial (fun hHeld => ?_)
            clear hK K
            refine wpAnyH_ready (rs := [1]) (by kernel_rfl) (by simp) ?_
            refine AllReadyH.cons rfl (fun K hK => ?_) AllReadyH.nil
            go_simp
            go_wp2_with (fail)
            refine hK.out _ _ trivial (fun hHeld => ?_)
            clear hK K
            refine wpAnyH_ready (rs := [7]) (by kernel_rfl) (by simp) ?_
            refine AllReadyH.cons rfl (fun K hK => ?_) AllReadyH.nil
            refine step_appU rfl (.tmp 44) (.tmp 49) rfl B4 A2 n2 c2 acc (by rfl) al5 (w5.heap.size + 1) (some ⟨w5.heap.size, 0, none⟩) 1 1 [(V : Int)] (by rfl) (NS.one w5 hvw rfl) (by have := HA.out; simp; omega) HSZ5.out ?_; intro A6 n6 c6 w6 o6 b6 g6 hat; have hQ6 := hQ5a.grown g6 (by intro e; first | exact own_blk_ne al5.2.1 hQ5a (by decide) e | exact own_blk_ne al5.2.1 hQ5a (by decide) e.symm); have f1 := hQ6.frozen 1; have q16 := hQ6.cell 1
            refine hK.out _ _ ?_ (fun hHeld => ?_)
            · try dsimp only
              first | done | trivial
            clear hK K
            refine wpAnyH_take (i := 8) (v := ?wev8) rfl (by kernel_rfl) (by kernel_rfl) (by kernel_rfl) (by intro _ _ _ h; exact h) (Or.inl ⟨by rfl, ?wehy8⟩) (by assumption) ?werest8
            case wehy8 => (intro w hSw; (try dsimp only at hSw); go_simp; try with_reducible rfl)
            try simp only [Act.put, List.getElem_toArray, List.getElem_cons_succ, List.getElem_cons_zero, List.setIfInBounds_toArray, List.set_cons_zero, List.set_cons_succ]
            refine wpAnyH_ready (rs := [9]) (by kernel_rfl) (by simp) ?_
            refine AllReadyH.cons rfl (fun K hK => ?_) AllReadyH.nil
            go_simp
            go_wp2_with (fail)
            refine hK.out _ _ ?_ (fun hHeld => ?_)
            · try dsimp only
              first | done | trivial
            clear hK K
            refine wpAnyH_done (by kernel_rfl) ?_ _
            refine HKK.out _ _ ?_
            have r6 := r5a.grown g6 (fun k hk => by
              have h1 := (al5.2.1.lt k hk).1
              exact ⟨by omega, by omega⟩)
            have hQ7 := hQ6.set_ 1 (.slice A6 n6 c6)
            simp only [List.setIfInBounds_toArray, List.set_cons_succ, List.set_cons_zero] at hQ7
            have gq := only_setCell (World.grownBy.refl w6 (some q)) (p := ⟨q, 1, none⟩) (.inl rfl) (.slice A6 n6 c6)
            have o7 := o6.at_g hQ6 (by decide) gq
            have r7 := r6.setCell (p := ⟨q, 1, none⟩) (by show Bd ≤ q; omega) (by show q ≠ g; omega) (.slice A6 n6 c6)
            have b57 : Below wo.heap.size w5 (w6.setCell ⟨q, 1, none⟩ (.slice A6 n6 c6)) := (((Below.refl wo.heap.size w5).alloc (by omega) (.cells #[.int .u32 (V : Int)] 33)).trans (b6.mono (by omega))).setCell (p := ⟨q, 1, none⟩) (by show wo.heap.size ≤ q; omega) (.slice A6 n6 c6)
            have g07 := grown_below g05 b57
            have z7 : B4 ≤ (w6.setCell ⟨q, 1, none⟩ (.slice A6 n6 c6)).heap.size := by have h1 := b6.size; have h2 := HSZ5.out; simp [World.setCell] at h1 h2 ⊢; omega
            clear q16 f1 q15 q15a q1d
            go_wp2_with fail
            go_roundw
            case rel => exact ⟨k + 1, acc ++ [(V : Int)], A6, n6, c6, t4, s4, rfl, by omega, r7, hQ7, o7, g07, z7, HIN⟩
            case measure => have := HKP.out; simp [intOf]; omega
set_option maxHeartbeats 8000000 in
set_option maxRecDepth 100000 in
theorem refRead03_narrow (A : Option Addr) (n c : Nat) (l : List UInt8) (w : World) (h : BS w w.heap.size A n l) (hn : n ≤ 100000) :
    Calls Tryd.prog 42 #[.slice A n c, .bool false] w (RetRf w (readA false l)) := by
  have HLL := Lib.hid (show l.length ≤ 100000 by rw [← h.len]; exact hn)
  go_enter Tryd.func42, Tryd.ntmps42
  go_upto_region 6 with fail
  obtain ⟨w1, hw1, hX, b1⟩ := box1c w #[.slice A n c, .int .i64 0, .bool false] 95
  try rw [hw1]
  clear hw1
  have hXl := hX.lt
  have r1x : RY w1.heap.size w1 w.heap.size l false := ⟨A, n, c, 0, l, hX, ⟨Nat.zero_le _, Nat.le_refl _⟩, h.call b1, hn, rfl⟩
  obtain ⟨g, hg⟩ : ∃ g, w.heap.size = g := ⟨_, rfl⟩
  obtain ⟨Bd, hBd⟩ : ∃ Bd, w1.heap.size = Bd := ⟨_, rfl⟩
  have r1 : RY Bd w1 g l false := by rw [← hg, ← hBd]; exact r1x
  have hgl : g < Bd := by rw [← hg, ← hBd]; exact hXl
  have HWB := Lib.hid (show w.heap.size ≤ Bd by rw [← hBd]; exact b1.size)
  have HWG := Lib.hid (show w.heap.size ≤ g from Nat.le_of_eq hg)
  have HBD := Lib.hid hBd
  have HG := Lib.hid hg
  clear hBd hg hX hXl r1x
  try rw [HG.out]
  go_wp2_with fail
  go_loopw [6, 9] (fun x i wr => ∃ (j : Nat) (L : List (Seg × Hd)) (A1 : Option Addr) (c1 : Nat) (t : List UInt8) (s : Bool), j ≤ 9 ∧ i = .int .i64 (j : Int) ∧ x = .slice A1 j c1 ∧ OP wr Bd A1 j c1 L ∧ RY Bd wr g t s ∧ Hid (InvO (szA false) l (L.map (·.1)) (9 - j) t s) ∧ Below w.heap.size w wr ∧ Bd ≤ wr.heap.size) (fun _ i _ => 9 - (intOf i).toNat)
  case atStart => exact ⟨0, [], none, 0, l, false, by omega, rfl, rfl, OP.nil_, r1, Lib.hid (InvO.start _ _), b1, Nat.le_of_eq HBD.out.symm⟩
  case round =>
    obtain ⟨j, L, A1, c1, t, s, hj, rfl, rfl, ho, r, HI, hb, hbd⟩ := hrel
    obtain ⟨wo, rfl⟩ : ∃ wo, wo = wr := ⟨_, rfl⟩
    have HTL := Lib.hid (show t.length ≤ 100000 from Nat.le_trans HI.out.2.1 HLL.out)
    obtain ⟨T, hT⟩ : ∃ T, (if s then 0 else t.length) = T := ⟨_, rfl⟩
    have HLF := Lib.hid (show ∀ w', RY Bd w' g t s → Calls Tryd.prog 84 #[.pointer (some ⟨g, 0, none⟩)] w' fun en w'' => en = .returned (.int .i64 (T : Nat)) ∧ Below w'.heap.size w' w'' from fun w' h => by rw [← hT]; exact ryLeft2 g t s w' h)
    have HT := Lib.hid hT
    clear hT
    by_cases hj9 : j = 9
    case pos =>
      have d1 : decide (j < 9) = false := decide_eq_false (by omega)
      have d1' : decide ((j : Int) < 9) = false := decide_eq_false (by omega)
      have HJ9 := Lib.hid hj9
      clear hj9
      have hsh := r.short
      cases s
      case true =>
        have HM := Lib.hid (show readA false l = none from HI.out.bad)
        go_wp2_with fail
        go_ret2
        refine ⟨hb, ?_⟩
        rw [HM.out]
        rfl
      case false =>
        have HTN : t.length = T := by have := HT.out; simpa using this
        have HTN := Lib.hid HTN
        go_wp2_with fail
        refine (HLF.out _ r).mono ?_
        rintro _ w2 ⟨rfl, b2⟩
        have hb2 := btr hb b2 hb.size
        have ho2 := ho.call b2
        by_cases hT0 : T = 0
        case pos =>
          subst hT0
          have HT0 := Lib.hid (show t = [] from List.eq_nil_of_length_eq_zero HTN.out)
          have HM := Lib.hid (show readA false l = if rightA (L.map (·.1)) = true then some (L.map (·.1)) else none from HI.out.good (.inl HT0.out))
          have hdl := ho2.dl
          obtain ⟨rr, hrr⟩ : ∃ rr, rightA (L.map (·.1)) = rr := ⟨_, rfl⟩
          have HRR := Lib.hid hrr
          have HRI := Lib.hid (show ∀ w', DL rSeg 2 w' (Lo w') A1 j (L.map (·.1)) → Calls Tryd.prog 20 #[.slice A1 j c1] w' fun en w'' => en = .returned (.bool rr) ∧ Below w'.heap.size w' w'' from fun w' h => by rw [← hrr]; exact refRight03 A1 j c1 _ w' h (by omega))
          clear hrr
          go_wp2_with fail
          refine (HRI.out _ hdl).mono ?_
          rintro _ w9 ⟨rfl, b9⟩
          have ho9 := ho2.call b9
          have b09 := btr hb2 b9 (hb2).size
          cases rr
          case true =>
            have HM2 := Lib.hid (show readA false l = some (L.map (·.1)) by rw [HM.out, HRR.out]; rfl)
            go_wp2_with fail
            go_ret2
            refine ⟨b09, ?_⟩
            rw [HM2.out]
            exact ⟨A1, j, c1, L, rfl, ho9.low HWB.out, rfl⟩
          case false =>
            have HM2 := Lib.hid (show readA false l = none by rw [HM.out, HRR.out]; rfl)
            go_wp2_with fail
            go_ret2
            refine ⟨b09, ?_⟩
            rw [HM2.out]
            rfl
        have d2 : decide (0 < T) = true := decide_eq_true (by omega)
        have HM := Lib.hid (show readA false l = none from HI.out.none_ (.inr (.inr (by have := HJ9.out; omega))) (rightA_long (by have h1 := HI.out.1; have h2 := HJ9.out; simp at h1 ⊢; omega)))
        clear hT0
        go_wp2_with fail
        go_ret2
        refine ⟨hb2, ?_⟩
        rw [HM.out]
        rfl
    have hj8 : j < 9 := by omega
    have d1 : decide (j < 9) = true := decide_eq_true hj8
    have d1' : decide ((j : Int) < 9) = true := decide_eq_true (by omega)
    clear hj9
    by_cases hT0 : T = 0
    case pos =>
      subst hT0
      go_wp2_with fail
      refine (HLF.out _ r).mono ?_
      rintro _ w2 ⟨rfl, b2⟩
      have hb2 := btr hb b2 hb.size
      have ho2 := ho.call b2
      have r2 := r.below b2 hbd r.lt
      have hsh := r2.short
      cases s
      case true =>
        have HM := Lib.hid (show readA false l = none from HI.out.bad)
        go_wp2_with fail
        go_ret2
        refine ⟨hb2, ?_⟩
        rw [HM.out]
        rfl
      case false =>
        have HT0 := Lib.hid (show t = [] from List.eq_nil_of_length_eq_zero (by have := HT.out; simpa using this))
        go_wp2_with fail
        refine (HLF.out _ r2).mono ?_
        rintro _ w3 ⟨rfl, b3⟩
        have hb3 := btr hb2 b3 hb2.size
        have ho3 := ho2.call b3
        have HM := Lib.hid (show readA false l = if rightA (L.map (·.1)) = true then some (L.map (·.1)) else none from HI.out.good (.inl HT0.out))
        have hdl := ho3.dl
        obtain ⟨rr, hrr⟩ : ∃ rr, rightA (L.map (·.1)) = rr := ⟨_, rfl⟩
        have HRR := Lib.hid hrr
        have HRI := Lib.hid (show ∀ w', DL rSeg 2 w' (Lo w') A1 j (L.map (·.1)) → Calls Tryd.prog 20 #[.slice A1 j c1] w' fun en w'' => en = .returned (.bool rr) ∧ Below w'.heap.size w' w'' from fun w' h => by rw [← hrr]; exact refRight03 A1 j c1 _ w' h (by omega))
        clear hrr
        go_wp2_with fail
        refine (HRI.out _ hdl).mono ?_
        rintro _ w9 ⟨rfl, b9⟩
        have ho9 := ho3.call b9
        have b09 := btr hb3 b9 (hb3).size
        cases rr
        case true =>
          have HM2 := Lib.hid (show readA false l = some (L.map (·.1)) by rw [HM.out, HRR.out]; rfl)
          go_wp2_with fail
          go_ret2
          refine ⟨b09, ?_⟩
          rw [HM2.out]
          exact ⟨A1, j, c1, L, rfl, ho9.low HWB.out, rfl⟩
        case false =>
          have HM2 := Lib.hid (show readA false l = none by rw [HM.out, HRR.out]; rfl)
          go_wp2_with fail
          go_ret2
          refine ⟨b09, ?_⟩
          rw [HM2.out]
          rfl
    have hTp : 0 < T := by omega
    have d2 : decide (0 < T) = true := decide_eq_true hTp
    clear hT0
    have hsf : s = false := by cases s; rfl; exact absurd HT.out (by simp; omega)
    subst hsf
    have HTL2 := Lib.hid (show t.length = T by have := HT.out; simpa using this)
    have HI2 := Lib.hid (show InvO (szA false) l (L.map (·.1)) ((9 - (j + 1)) + 1) t false by rw [show 9 - (j + 1) + 1 = 9 - j by omega]; exact HI.out)
    obtain ⟨K, t1, s1, E1⟩ : ∃ v1 l1 s1, numL (tkOut t false (1 : Nat)) = v1 ∧ tkLeft t false (1 : Nat) = l1 ∧ tkShort t false (1 : Nat) = s1 := ⟨_, _, _, rfl, rfl, rfl⟩
    obtain ⟨C, t2, s2, E2⟩ : ∃ v1 l1 s', numL (tkOut t1 s1 (1 : Nat)) = v1 ∧ tkLeft t1 s1 (1 : Nat) = l1 ∧ tkShort t1 s1 (1 : Nat) = s' := ⟨_, _, _, rfl, rfl, rfl⟩
    have hC : C ≤ 255 := by rw [← E2.1]; have := tkOut_num t1 s1 1; omega
    have hK : K ≤ 255 := by rw [← E1.1]; have := tkOut_num t false 1; omega
    have HL1 := Lib.hid (show t1.length ≤ t.length by rw [← E1.2.1]; exact tkLeft_len _ _ _)
    have HL2 := Lib.hid (show t2.length ≤ t1.length by rw [← E2.2.1]; exact tkLeft_len _ _ _)
    have HB1 := Lib.hid (show ∀ w', RY Bd w' g t false → Calls Tryd.prog 85 #[.pointer (some ⟨g, 0, none⟩), .int .i64 1] w' fun en w'' => en = .returned (.int .i64 (K : Nat)) ∧ RY Bd w'' g t1 s1 ∧ w'.grownBy w'' (some g) from fun w' h => by have := ryNum g t false 1 w' h (by omega); rw [E1.1, E1.2.1, E1.2.2] at this; exact this)
    have HB2 := Lib.hid (show ∀ w', RY Bd w' g t1 s1 → Calls Tryd.prog 85 #[.pointer (some ⟨g, 0, none⟩), .int .i64 1] w' fun en w'' => en = .returned (.int .i64 (C : Nat)) ∧ RY Bd w'' g t2 s2 ∧ w'.grownBy w'' (some g) from fun w' h => by have := ryNum g t1 s1 1 w' h (by omega); rw [E2.1, E2.2.1, E2.2.2] at this; exact this)
    have HE1 := Lib.hid E1
    have HE2 := Lib.hid E2
    clear E1 E2
    have HNE := Lib.hid (show t ≠ [] from fun e => by have h1 := HTL2.out; rw [e] at h1; simp at h1; omega)
    obtain ⟨cs0, hrb⟩ := r.blk
    have wj : IntKind.i64.wrap ((j : Int) + 1) = ((j + 1 : Nat) : Int) := by rw [show ((j + 1 : Nat) : Int) = (j : Int) + 1 by omega]; exact IntWalk.i64_in _ ⟨by omega, by omega⟩
    go_wp2_with fail
    refine (HLF.out _ r).mono ?_
    rintro _ w0 ⟨rfl, bb⟩
    have z0 := bb.size
    have r0 := r.below bb hbd r.lt
    have gg0 : wo.grownBy w0 (some g) := grown_none (c := w0) bb
    go_wp2_with fail
    refine (HB1.out _ r0).mono ?_
    rintro _ w2 ⟨rfl, r2, g2x⟩
    have g2 := grown_tr gg0 g2x
    have z2 := g2.size
    go_wp2_with fail
    obtain ⟨w3, hw3, hQ3, b3⟩ := box1c w2 #[.int .i64 K, .slice none 0 0] 73
    try rw [hw3]
    clear hw3
    have hQl3 := hQ3.lt
    obtain ⟨q, hq⟩ : ∃ q, w2.heap.size = q := ⟨_, rfl⟩
    have g3 := grown_below g2 (b3.mono z2)
    have r3 := r2.below b3 (by omega) (by omega)
    rw [hq] at hQ3 hQl3
    try rw [hq]
    have hqo : wo.heap.size ≤ q := by omega
    clear hq b3
    refine (HB2.out _ r3).mono ?_
    rintro _ w4 ⟨rfl, r4, g4⟩
    have z4 := g4.size
    have hgq : q ≠ g := by omega
    have hQ4 := hQ3.grown g4 (by intro e; injection e with e; omega)
    have g04 := grown_tr g3 g4
    obtain ⟨B4, hB4⟩ : ∃ B4, w4.heap.size = B4 := ⟨_, rfl⟩
    have HB4 := Lib.hid hB4
    have hqB : q < B4 := by rw [← hB4]; omega
    have hoB : wo.heap.size ≤ B4 := by omega
    clear hB4
    have HII := Lib.hid (InvN.start (szA false) C t2 s2)
    go_wp2_with fail
    go_loopw [12] (fun x wi => ∃ (k : Nat) (acc : List Int) (A2 : Option Addr) (n2 c2 : Nat) (t3 : List UInt8) (s3 : Bool), x = .int .i64 (k : Int) ∧ k ≤ C ∧ RY Bd wi g t3 s3 ∧ Blk wi q 73 #[.int .i64 K, .slice A2 n2 c2] ∧ OU wi B4 A2 n2 c2 acc ∧ wo.grownBy wi (some g) ∧ B4 ≤ wi.heap.size ∧ Hid (InvN (szA false) C t2 s2 acc (C - k) t3 s3)) (fun x _ => C - (intOf x).toNat)
    case atStart => exact ⟨0, [], none, 0, 0, t2, s2, rfl, Nat.zero_le _, r4, hQ4, OU.nil_, g04, Nat.le_of_eq HB4.out.symm, HII⟩
    case round =>
      obtain ⟨k, acc, A2, n2, c2, t3, s3, rfl, hkC, ri, hQi, oi, gi, zi, HIi⟩ := hrel
      have HA := Lib.hid (show acc.length ≤ 255 by have := HIi.out.1; omega)
      have hsh := ri.short
      by_cases hkc : k = C
      case pos =>
        have d4 : decide (k < C) = false := decide_eq_false (by omega)
        have HIi := Lib.hid (show InvN (szA false) C t2 s2 acc 0 t3 s3 by have := HIi.out; rw [hkc, Nat.sub_self] at this; exact this)
        clear hkc
        have HIO := Lib.hid (HI2.out.step HNE.out HE1.out HE2.out HIi.out (.inr rfl))
        have hoi := ho.at_g hrb (by decide) (by decide) gi
        have bi := at_below hb gi hb.size (by have := HWG.out; omega)
        have oa := own_alloc2 hoi.2.1 (.cells #[.int .i64 K, .slice A2 n2 c2] 73)
        have B5 := bi.alloc bi.size (.cells #[.int .i64 K, .slice A2 n2 c2] 73)
        have HOP := (hoi.call ((Below.refl wr.heap.size wr).alloc (Nat.le_refl _) (.cells #[.int .i64 K, .slice A2 n2 c2] 73)))
        have hwB : Bd ≤ B4 := by omega
        have o3a := (oi.alloc (.cells #[.int .i64 K, .slice A2 n2 c2] 73)).low hwB
        have HAP := Lib.hid (ho.apt (y := (((K : Int), acc), (A2, n2, c2))) oi hoB)
        have ra := ri.below ((Below.refl wr.heap.size wr).alloc (Nat.le_refl _) (.cells #[.int .i64 K, .slice A2 n2 c2] 73)) (by omega) ri.lt
        have x0 : wr.cell? ⟨q, 0, none⟩ = some (.int .i64 (K : Int)) := hQi.cell 0
        have x1 : wr.cell? ⟨q, 1, none⟩ = some (.slice A2 n2 c2) := hQi.cell 1
        go_wp2_with (at_builtin; refine wpl_appR rfl (.tmp 52) (.tmp 54) 22 rfl 73 _ 2 32 Tryd.underlying22 seg_info rfl (by omega) Bd _ j _ _ (by rfl) oa (wr.heap.size + 1) (some ⟨wr.heap.size, 0, none⟩) 1 1 [.int .i64 K, .slice A2 n2 c2] (by rfl) (Reads.two wr 73 (.int .i64 K) (.slice A2 n2 c2) rfl) (by intro u hu; simp at hu; rcases hu with rfl | rfl <;> rfl) (by unfold maxLen; omega) (by omega) (by simp; omega) ?_; intro A6 c6 w6 o6 b6 g6 _)
        have hO6 := HOP.push (y := (((K : Int), acc), (A2, n2, c2))) o3a HAP.out o6 g6
        have r6 := ra.grown g6 (fun k hk => by
          have h1 := (hoi.2.1.lt k hk).1
          exact ⟨by omega, by omega⟩)
        have z6 := b6.size
        go_roundw
        case rel => exact ⟨j + 1, L ++ [(((K : Int), acc), (A2, n2, c2))], A6, c6, t3, _, by omega, rfl, rfl, hO6, r6, Lib.hid (by rw [List.map_append]; exact HIO.out), B5.trans (b6.mono HWB.out), by simp at z6; omega⟩
        case measure => simp [intOf]; omega
      have hkp : k < C := by omega
      have d4 : decide (k < C) = true := decide_eq_true hkp
      have HKP := Lib.hid hkp
      clear hkc
      cases s3
      case true =>
        have HIO := Lib.hid (HI2.out.step HNE.out HE1.out HE2.out HIi.out (.inl rfl))
        have hoi := ho.at_g hrb (by decide) (by decide) gi
        have bi := at_below hb gi hb.size (by have := HWG.out; omega)
        have oa := own_alloc2 hoi.2.1 (.cells #[.int .i64 K, .slice A2 n2 c2] 73)
        have B5 := bi.alloc bi.size (.cells #[.int .i64 K, .slice A2 n2 c2] 73)
        have HOP := (hoi.call ((Below.refl wr.heap.size wr).alloc (Nat.le_refl _) (.cells #[.int .i64 K, .slice A2 n2 c2] 73)))
        have hwB : Bd ≤ B4 := by omega
        have o3a := (oi.alloc (.cells #[.int .i64 K, .slice A2 n2 c2] 73)).low hwB
        have HAP := Lib.hid (ho.apt (y := (((K : Int), acc), (A2, n2, c2))) oi hoB)
        have ra := ri.below ((Below.refl wr.heap.size wr).alloc (Nat.le_refl _) (.cells #[.int .i64 K, .slice A2 n2 c2] 73)) (by omega) ri.lt
        have x0 : wr.cell? ⟨q, 0, none⟩ = some (.int .i64 (K : Int)) := hQi.cell 0
        have x1 : wr.cell? ⟨q, 1, none⟩ = some (.slice A2 n2 c2) := hQi.cell 1
        go_wp2_with (at_builtin; refine wpl_appR rfl (.tmp 52) (.tmp 54) 22 rfl 73 _ 2 32 Tryd.underlying22 seg_info rfl (by omega) Bd _ j _ _ (by rfl) oa (wr.heap.size + 1) (some ⟨wr.heap.size, 0, none⟩) 1 1 [.int .i64 K, .slice A2 n2 c2] (by rfl) (Reads.two wr 73 (.int .i64 K) (.slice A2 n2 c2) rfl) (by intro u hu; simp at hu; rcases hu with rfl | rfl <;> rfl) (by unfold maxLen; omega) (by omega) (by simp; omega) ?_; intro A6 c6 w6 o6 b6 g6 _)
        have hO6 := HOP.push (y := (((K : Int), acc), (A2, n2, c2))) o3a HAP.out o6 g6
        have r6 := ra.grown g6 (fun k hk => by
          have h1 := (hoi.2.1.lt k hk).1
          exact ⟨by omega, by omega⟩)
        have z6 := b6.size
        go_roundw
        case rel => exact ⟨j + 1, L ++ [(((K : Int), acc), (A2, n2, c2))], A6, c6, t3, _, by omega, rfl, rfl, hO6, r6, Lib.hid (by rw [List.map_append]; exact HIO.out), B5.trans (b6.mono HWB.out), by simp at z6; omega⟩
        case measure => simp [intOf]; omega
      case false =>
        have HIi2 := Lib.hid (show InvN 2 C t2 s2 acc ((C - (k + 1)) + 1) t3 false by rw [show C - (k + 1) + 1 = C - k by omega]; exact HIi.out)
        have wk : IntKind.i64.wrap ((k : Int) + 1) = ((k + 1 : Nat) : Int) := by rw [show ((k + 1 : Nat) : Int) = (k : Int) + 1 by omega]; exact IntWalk.i64_in _ ⟨by omega, by omega⟩
        have hQd : Blk wr.drew q 73 #[.int .i64 K, .slice A2 n2 c2] := hQi
        have rid : RY Bd wr.drew g t3 false := ri
        have oid : OU wr.drew B4 A2 n2 c2 acc := oi
        have gid : wo.grownBy wr.drew (some g) := ⟨gi.os, gi.tape, gi.output, gi.size, gi.block⟩
        have zid : B4 ≤ wr.drew.heap.size := zi
        have q1d := hQd.cell 1
        have hgo : g < wo.heap.size := hrb.lt
        obtain ⟨V, t4, s4, E3⟩ : ∃ v1 l1 s', numL (tkOut t3 false (2 : Nat)) = v1 ∧ tkLeft t3 false (2 : Nat) = l1 ∧ tkShort t3 false (2 : Nat) = s' := ⟨_, _, _, rfl, rfl, rfl⟩
        have HV := Lib.hid (show V < 65536 by rw [← E3.1]; have := tkOut_num t3 false 2; omega)
        have HB3 := Lib.hid (show ∀ w', RY Bd w' g t3 false → Calls Tryd.prog 85 #[.pointer (some ⟨g, 0, none⟩), .int .i64 2] w' fun en w'' => en = .returned (.int .i64 (V : Nat)) ∧ RY Bd w'' g t4 s4 ∧ w'.grownBy w'' (some g) from fun w' h => by have := ryNum g t3 false 2 w' h (by omega); rw [E3.1, E3.2.1, E3.2.2] at this; exact this)
        have HIN := Lib.hid (show InvN (szA false) C t2 s2 (acc ++ [(V : Int)]) (C - (k + 1)) t4 s4 by have := HIi2.out.step; rw [E3.1, E3.2.1, E3.2.2] at this; exact this)
        have hvw : (Lit.int .u32 (V : Int)).wf = true := un32 (by have := HV.out; omega)
        have hcw : IntKind.u32.wrap (V : Int) = (V : Int) := by rw [IntKind.wrap_u32]; have := HV.out; omega
        clear E3
        go_upto_region 14 with fail
        rename_i hk
        have HKK := Lib.hid hk
        clear hk
        refine wp_region_held_drew (S := (fun _ => True)) (by kernel_rfl) ?_ (fun hHeld => ?_)
        · first | done | trivial
        refine wpAnyH_take (i := 0) (v := ?npv0) rfl (by kernel_rfl) (by kernel_rfl) (by kernel_rfl) (by intro _ _ _ h; exact h) (Or.inl ⟨by rfl, ?nphy0⟩) (by assumption) ?nprest0
        case nphy0 => (intro w hSw; (try dsimp only at hSw); go_simp; try with_reducible rfl)
        try simp only [Act.put, List.getElem_toArray, List.getElem_cons_succ, List.getElem_cons_zero, List.setIfInBounds_toArray, List.set_cons_zero, List.set_cons_succ]
        refine wpAnyH_take (i := 2) (v := ?npv2) rfl (by kernel_rfl) (by kernel_rfl) (by kernel_rfl) (by intro _ _ _ h; exact h) (Or.inl ⟨by rfl, ?nphy2⟩) (by assumption) ?nprest2
        case nphy2 => (intro w hSw; (try dsimp only at hSw); go_simp; try with_reducible rfl)
        try simp only [Act.put, List.getElem_toArray, List.getElem_cons_succ, List.getElem_cons_zero, List.setIfInBounds_toArray, List.set_cons_zero, List.set_cons_succ]
        refine wpAnyH_take (i := 3) (v := ?npv3) rfl (by kernel_rfl) (by kernel_rfl) (by kernel_rfl) (by intro _ _ _ h; exact h) (Or.inl ⟨by rfl, ?nphy3⟩) (by assumption) ?nprest3
        case nphy3 => (intro w hSw; (try dsimp only at hSw); go_simp; try with_reducible rfl)
        try simp only [Act.put, List.getElem_toArray, List.getElem_cons_succ, List.getElem_cons_zero, List.setIfInBounds_toArray, List.set_cons_zero, List.set_cons_succ]
        refine wpAnyH_ready (rs := [1, 4]) (by kernel_rfl) (by simp) ?_
        refine AllReadyH.cons rfl (fun K hK => ?_) (AllReadyH.cons rfl (fun K hK => ?_) AllReadyH.nil)
        · skip
          go_simp
          go_wp2_with (fail)
          refine hK.out _ _ trivial (fun hHeld => ?_)
          clear hK K
          refine wpAnyH_ready (rs := [4]) (by kernel_rfl) (by simp) ?_
          refine AllReadyH.cons rfl (fun K hK => ?_) AllReadyH.nil
          go_simp
          go_wp2_with ((go_at_call 85; refine (HB3.out _ rid).mono ?_; rintro _ w5 ⟨rfl, r5, g5⟩; have z5 := g5.size; have hQ5 := hQd.grown g5 (by intro e; injection e with e; omega); have q15 := hQ5.cell 1; obtain ⟨cs1, hrb1⟩ := rid.blk; have o5 := oid.at_g hrb1 (by decide) g5; have al5 := o5.alloc (.cells #[.int .u32 (V : Int)] 33); have hQ5a := hQ5.alloc (.cells #[.int .u32 (V : Int)] 33); have q15a := hQ5a.cell 1; have r5a := r5.below ((Below.refl w5.heap.size w5).alloc (Nat.le_refl _) (.cells #[.int .u32 (V : Int)] 33)) (by omega) r5.lt; have g05 := grown_tr gid g5; have HSZ5 := Lib.hid (show B4 ≤ (w5.alloc (.cells #[.int .u32 (V : Int)] 33)).heap.size by simp; omega)))
          refine hK.out _ _ trivial (fun hHeld => ?_)
          clear hK K
          refine wpAnyH_take (i := 5) (v := ?nav5) rfl (by kernel_rfl) (by kernel_rfl) (by kernel_rfl) (by intro _ _ _ h; exact h) (Or.inl ⟨by rfl, ?nahy5⟩) (by assumption) ?narest5
          case nahy5 => (intro w hSw; (try dsimp only at hSw); go_simp; try with_reducible rfl)
          try simp only [Act.put, List.getElem_toArray, List.getElem_cons_succ, List.getElem_cons_zero, List.setIfInBounds_toArray, List.set_cons_zero, List.set_cons_succ]
          refine wpAnyH_ready (rs := [6]) (by kernel_rfl) (by simp) ?_
          refine AllReadyH.cons rfl (fun K hK => ?_) AllReadyH.nil
          go_simp
          go_wp2_with (fail)
          refine hK.out _ _ trivial (fun hHeld => ?_)
          clear hK K
          refine wpAnyH_ready (rs := [7]) (by kernel_rfl) (by simp) ?_
          refine AllReadyH.cons rfl (fun K hK => ?_) AllReadyH.nil
          refine step_appU rfl (.tmp 44) (.tmp 49) rfl B4 A2 n2 c2 acc (by rfl) al5 (w5.heap.size + 1) (some ⟨w5.heap.size, 0, none⟩) 1 1 [(V : Int)] (by rfl) (NS.one w5 hvw rfl) (by have := HA.out; simp; omega) HSZ5.out ?_; intro A6 n6 c6 w6 o6 b6 g6 hat; have hQ6 := hQ5a.grown g6 (by intro e; first | exact own_blk_ne al5.2.1 hQ5a (by decide) e | exact own_blk_ne al5.2.1 hQ5a (by decide) e.symm); have f1 := hQ6.frozen 1; have q16 := hQ6.cell 1
          refine hK.out _ _ ?_ (fun hHeld => ?_)
          · try dsimp only
            first | done | trivial
          clear hK K
          refine wpAnyH_take (i := 8) (v := ?nbv8) rfl (by kernel_rfl) (by kernel_rfl) (by kernel_rfl) (by intro _ _ _ h; exact h) (Or.inl ⟨by rfl, ?nbhy8⟩) (by assumption) ?nbrest8
          case nbhy8 => (intro w hSw; (try dsimp only at hSw); go_simp; try with_reducible rfl)
          try simp only [Act.put, List.getElem_toArray, List.getElem_cons_succ, List.getElem_cons_zero, List.setIfInBounds_toArray, List.set_cons_zero, List.set_cons_succ]
          refine wpAnyH_ready (rs := [9]) (by kernel_rfl) (by simp) ?_
          refine AllReadyH.cons rfl (fun K hK => ?_) AllReadyH.nil
          go_simp
          go_wp2_with (fail)
          refine hK.out _ _ ?_ (fun hHeld => ?_)
          · try dsimp only
            first | done | trivial
          clear hK K
          refine wpAnyH_done (by kernel_rfl) ?_ _
          refine HKK.out _ _ ?_
          have r6 := r5a.grown g6 (fun k hk => by
            have h1 := (al5.2.1.lt k hk).1
            exact ⟨by omega, by omega⟩)
          have hQ7 := hQ6.set_ 1 (.slice A6 n6 c6)
          simp only [List.setIfInBounds_toArray, List.set_cons_succ, List.set_cons_zero] at hQ7
          have gq := only_setCell (World.grownBy.refl w6 (some q)) (p := ⟨q, 1, none⟩) (.inl rfl) (.slice A6 n6 c6)
          have o7 := o6.at_g hQ6 (by decide) gq
          have r7 := r6.setCell (p := ⟨q, 1, none⟩) (by show Bd ≤ q; omega) (by show q ≠ g; omega) (.slice A6 n6 c6)
          have b57 : Below wo.heap.size w5 (w6.setCell ⟨q, 1, none⟩ (.slice A6 n6 c6)) := (((Below.refl wo.heap.size w5).alloc (by omega) (.cells #[.int .u32 (V : Int)] 33)).trans (b6.mono (by omega))).setCell (p := ⟨q, 1, none⟩) (by show wo.heap.size ≤ q; omega) (.slice A6 n6 c6)
          have g07 := grown_below g05 b57
          have z7 : B4 ≤ (w6.setCell ⟨q, 1, none⟩ (.slice A6 n6 c6)).heap.size := by have h1 := b6.size; have h2 := HSZ5.out; simp [World.setCell] at h1 h2 ⊢; omega
          clear q16 f1 q15 q15a q1d
          go_wp2_with fail
          go_roundw
          case rel => exact ⟨k + 1, acc ++ [(V : Int)], A6, n6, c6, t4, s4, rfl, by omega, r7, hQ7, o7, g07, z7, HIN⟩
          case measure => have := HKP.out; simp [intOf]; omega
        · skip
          go_simp
          go_wp2_with ((go_at_call 85; refine (HB3.out _ rid).mono ?_; rintro _ w5 ⟨rfl, r5, g5⟩; have z5 := g5.size; have hQ5 := hQd.grown g5 (by intro e; injection e with e; omega); have q15 := hQ5.cell 1; obtain ⟨cs1, hrb1⟩ := rid.blk; have o5 := oid.at_g hrb1 (by decide) g5; have al5 := o5.alloc (.cells #[.int .u32 (V : Int)] 33); have hQ5a := hQ5.alloc (.cells #[.int .u32 (V : Int)] 33); have q15a := hQ5a.cell 1; have r5a := r5.below ((Below.refl w5.heap.size w5).alloc (Nat.le_refl _) (.cells #[.int .u32 (V : Int)] 33)) (by omega) r5.lt; have g05 := grown_tr gid g5; have HSZ5 := Lib.hid (show B4 ≤ (w5.alloc (.cells #[.int .u32 (V : Int)] 33)).heap.size by simp; omega)))
          refine hK.out _ _ trivial (fun hHeld => ?_)
          clear hK K
          refine wpAnyH_take (i := 5) (v := ?ncv5) rfl (by kernel_rfl) (by kernel_rfl) (by kernel_rfl) (by intro _ _ _ h; exact h) (Or.inl ⟨by rfl, ?nchy5⟩) (by assumption) ?ncrest5
          case nchy5 => (intro w hSw; (try dsimp only at hSw); go_simp; try with_reducible rfl)
          try simp only [Act.put, List.getElem_toArray, List.getElem_cons_succ, List.getElem_cons_zero, List.setIfInBounds_toArray, List.set_cons_zero, List.set_cons_succ]
          refine wpAnyH_ready (rs := [1, 6]) (by kernel_rfl) (by simp) ?_
          refine AllReadyH.cons rfl (fun K hK => ?_) (AllReadyH.cons rfl (fun K hK => ?_) AllReadyH.nil)
          · skip
            go_simp
            go_wp2_with (fail)
            refine hK.out _ _ trivial (fun hHeld => ?_)
            clear hK K
            refine wpAnyH_ready (rs := [6]) (by kernel_rfl) (by simp) ?_
            refine AllReadyH.cons rfl (fun K hK => ?_) AllReadyH.nil
            go_simp
            go_wp2_with (fail)
            refine hK.out _ _ trivial (fun hHeld => ?_)
            clear hK K
            refine wpAnyH_ready (rs := [7]) (by kernel_rfl) (by simp) ?_
            refine AllReadyH.cons rfl (fun K hK => ?_) AllReadyH.nil
            refine step_appU rfl (.tmp 44) (.tmp 49) rfl B4 A2 n2 c2 acc (by rfl) al5 (w5.heap.size + 1) (some ⟨w5.heap.size, 0, none⟩) 1 1 [(V : Int)] (by rfl) (NS.one w5 hvw rfl) (by have := HA.out; simp; omega) HSZ5.out ?_; intro A6 n6 c6 w6 o6 b6 g6 hat; have hQ6 := hQ5a.grown g6 (by intro e; first | exact own_blk_ne al5.2.1 hQ5a (by decide) e | exact own_blk_ne al5.2.1 hQ5a (by decide) e.symm); have f1 := hQ6.frozen 1; have q16 := hQ6.cell 1
            refine hK.out _ _ ?_ (fun hHeld => ?_)
            · try dsimp only
              first | done | trivial
            clear hK K
            refine wpAnyH_take (i := 8) (v := ?ndv8) rfl (by kernel_rfl) (by kernel_rfl) (by kernel_rfl) (by intro _ _ _ h; exact h) (Or.inl ⟨by rfl, ?ndhy8⟩) (by assumption) ?ndrest8
            case ndhy8 => (intro w hSw; (try dsimp only at hSw); go_simp; try with_reducible rfl)
            try simp only [Act.put, List.getElem_toArray, List.getElem_cons_succ, List.getElem_cons_zero, List.setIfInBounds_toArray, List.set_cons_zero, List.set_cons_succ]
            refine wpAnyH_ready (rs := [9]) (by kernel_rfl) (by simp) ?_
            refine AllReadyH.cons rfl (fun K hK => ?_) AllReadyH.nil
            go_simp
            go_wp2_with (fail)
            refine hK.out _ _ ?_ (fun hHeld => ?_)
            · try dsimp only
              first | done | trivial
            clear hK K
            refine wpAnyH_done (by kernel_rfl) ?_ _
            refine HKK.out _ _ ?_
            have r6 := r5a.grown g6 (fun k hk => by
              have h1 := (al5.2.1.lt k hk).1
              exact ⟨by omega, by omega⟩)
            have hQ7 := hQ6.set_ 1 (.slice A6 n6 c6)
            simp only [List.setIfInBounds_toArray, List.set_cons_succ, List.set_cons_zero] at hQ7
            have gq := only_setCell (World.grownBy.refl w6 (some q)) (p := ⟨q, 1, none⟩) (.inl rfl) (.slice A6 n6 c6)
            have o7 := o6.at_g hQ6 (by decide) gq
            have r7 := r6.setCell (p := ⟨q, 1, none⟩) (by show Bd ≤ q; omega) (by show q ≠ g; omega) (.slice A6 n6 c6)
            have b57 : Below wo.heap.size w5 (w6.setCell ⟨q, 1, none⟩ (.slice A6 n6 c6)) := (((Below.refl wo.heap.size w5).alloc (by omega) (.cells #[.int .u32 (V : Int)] 33)).trans (b6.mono (by omega))).setCell (p := ⟨q, 1, none⟩) (by show wo.heap.size ≤ q; omega) (.slice A6 n6 c6)
            have g07 := grown_below g05 b57
            have z7 : B4 ≤ (w6.setCell ⟨q, 1, none⟩ (.slice A6 n6 c6)).heap.size := by have h1 := b6.size; have h2 := HSZ5.out; simp [World.setCell] at h1 h2 ⊢; omega
            clear q16 f1 q15 q15a q1d
            go_wp2_with fail
            go_roundw
            case rel => exact ⟨k + 1, acc ++ [(V : Int)], A6, n6, c6, t4, s4, rfl, by omega, r7, hQ7, o7, g07, z7, HIN⟩
            case measure => have := HKP.out; simp [intOf]; omega
          · skip
            go_simp
            go_wp2_with (fail)
            refine hK.out _ _ trivial (fun hHeld => ?_)
            clear hK K
            refine wpAnyH_ready (rs := [1]) (by kernel_rfl) (by simp) ?_
            refine AllReadyH.cons rfl (fun K hK => ?_) AllReadyH.nil
            go_simp
            go_wp2_with (fail)
            refine hK.out _ _ trivial (fun hHeld => ?_)
            clear hK K
            refine wpAnyH_ready (rs := [7]) (by kernel_rfl) (by simp) ?_
            refine AllReadyH.cons rfl (fun K hK => ?_) AllReadyH.nil
            refine step_appU rfl (.tmp 44) (.tmp 49) rfl B4 A2 n2 c2 acc (by rfl) al5 (w5.heap.size + 1) (some ⟨w5.heap.size, 0, none⟩) 1 1 [(V : Int)] (by rfl) (NS.one w5 hvw rfl) (by have := HA.out; simp; omega) HSZ5.out ?_; intro A6 n6 c6 w6 o6 b6 g6 hat; have hQ6 := hQ5a.grown g6 (by intro e; first | exact own_blk_ne al5.2.1 hQ5a (by decide) e | exact own_blk_ne al5.2.1 hQ5a (by decide) e.symm); have f1 := hQ6.frozen 1; have q16 := hQ6.cell 1
            refine hK.out _ _ ?_ (fun hHeld => ?_)
            · try dsimp only
              first | done | trivial
            clear hK K
            refine wpAnyH_take (i := 8) (v := ?nev8) rfl (by kernel_rfl) (by kernel_rfl) (by kernel_rfl) (by intro _ _ _ h; exact h) (Or.inl ⟨by rfl, ?nehy8⟩) (by assumption) ?nerest8
            case nehy8 => (intro w hSw; (try dsimp only at hSw); go_simp; try with_reducible rfl)
            try simp only [Act.put, List.getElem_toArray, List.getElem_cons_succ, List.getElem_cons_zero, List.setIfInBounds_toArray, List.set_cons_zero, List.set_cons_succ]
            refine wpAnyH_ready (rs := [9]) (by kernel_rfl) (by simp) ?_
            refine AllReadyH.cons rfl (fun K hK => ?_) AllReadyH.nil
            go_simp
            go_wp2_with (fail)
            refine hK.out _ _ ?_ (fun hHeld => ?_)
            · try dsimp only
              first | done | trivial
            clear hK K
            refine wpAnyH_done (by kernel_rfl) ?_ _
            refine HKK.out _ _ ?_
            have r6 := r5a.grown g6 (fun k hk => by
              have h1 := (al5.2.1.lt k hk).1
              exact ⟨by omega, by omega⟩)
            have hQ7 := hQ6.set_ 1 (.slice A6 n6 c6)
            simp only [List.setIfInBounds_toArray, List.set_cons_succ, List.set_cons_zero] at hQ7
            have gq := only_setCell (World.grownBy.refl w6 (some q)) (p := ⟨q, 1, none⟩) (.inl rfl) (.slice A6 n6 c6)
            have o7 := o6.at_g hQ6 (by decide) gq
            have r7 := r6.setCell (p := ⟨q, 1, none⟩) (by show Bd ≤ q; omega) (by show q ≠ g; omega) (.slice A6 n6 c6)
            have b57 : Below wo.heap.size w5 (w6.setCell ⟨q, 1, none⟩ (.slice A6 n6 c6)) := (((Below.refl wo.heap.size w5).alloc (by omega) (.cells #[.int .u32 (V : Int)] 33)).trans (b6.mono (by omega))).setCell (p := ⟨q, 1, none⟩) (by show wo.heap.size ≤ q; omega) (.slice A6 n6 c6)
            have g07 := grown_below g05 b57
            have z7 : B4 ≤ (w6.setCell ⟨q, 1, none⟩ (.slice A6 n6 c6)).heap.size := by have h1 := b6.size; have h2 := HSZ5.out; simp [World.setCell] at h1 h2 ⊢; omega
            clear q16 f1 q15 q15a q1d
            go_wp2_with fail
            go_roundw
            case rel => exact ⟨k + 1, acc ++ [(V : Int)], A6, n6, c6, t4, s4, rfl, by omega, r7, hQ7, o7, g07, z7, HIN⟩
            case measure => have := HKP.out; simp [intOf]; omega
theorem refRead03 (A : Option Addr) (n c : Nat) (l : List UInt8) (wide : Bool) (w : World) (h : BS w w.heap.size A n l) (hn : n ≤ 100000) :
    Calls Tryd.prog 42 #[.slice A n c, .bool wide] w (RetRf w (readA wide l)) := by
  cases wide
  · exact refRead03_narrow A n c l w h hn
  · exact refRead03_wide A n c l w h hn
end Go.Proofs.YtlpkngjeihoknaaDoor
