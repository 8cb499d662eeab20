/- Walks of layer 3 (paths): which path bytes say. No conditions but sizes. -/
import Derived.Test.YtlpkngjeihoknaaDoorProg
import Derived.WalkKit
import Derived.WalkSpells
import Derived.WalkLawsBesides
import Derived.Outline
import Derived.Deep.QuietTactic
import Derived.BigQuiet
import Derived.Handy
import Derived.Lib.Hide
import Derived.Laws.Cover4
import Derived.OrdersHeld
import Derived.Deep.RegionHeld
import Derived.Deep.LoopGhost
import Derived.Deep.DeepCutAuto
import Derived.Deep.CutBlock
import Derived.Test.YtlpkngjeihoknaaDoorAspT
import Derived.Test.YtlpkngjeihoknaaDoorAspO
namespace Go.Proofs.YtlpkngjeihoknaaDoor
open Go.RowKit
set_option linter.unusedSimpArgs false
set_option linter.unusedVariables false
/-- A path of the call's own stays where a row of another type is written. -/
theorem OP.at_g {w w' : World} {base n c g : Nat} {A : Option Addr} {L : List (Seg × Hd)} {t : TypeId} {cs : Array Value} (h : OP w base A n c L) (hb : Blk w g t cs) (h1 : 73 ≠ t) (h2 : 33 ≠ t) (hg : w.grownBy w' (some g)) : OP w' base A n c L :=
  ⟨h.1, own_at h.2.1 hb h1 hg, fun y hy => ⟨(h.2.2.1 y hy).1, own_at (h.2.2.1 y hy).2.1 hb h2 hg, (h.2.2.1 y hy).2.2⟩, h.2.2.2⟩
theorem OU.at_g {w w' : World} {base n c g : Nat} {A : Option Addr} {l : List Int} {t : TypeId} {cs : Array Value} (h : OU w base A n c l) (hb : Blk w g t cs) (h2 : 33 ≠ t) (hg : w.grownBy w' (some g)) : OU w' base A n c l :=
  ⟨h.1, own_at h.2.1 hb h2 hg, h.2.2⟩
theorem grown_below {a b c : World} {row : Option Nat} (h : a.grownBy b row) (k : Below a.heap.size b c) : a.grownBy c row :=
  ⟨k.os.trans h.os, k.tape.trans h.tape, k.output.trans h.output, Nat.le_trans h.size k.size, fun i hi hne => (k.block i hi).trans (h.block i hi hne)⟩
theorem grown_none {a b c : World} {row : Option Nat} (h : Below a.heap.size a b) : a.grownBy b row := ⟨h.os, h.tape, h.output, h.size, fun i hi _ => h.block i hi⟩
theorem un32 {V : Nat} (h : V < 4294967296) : (Lit.int .u32 (V : Int)).wf = true := by
  simp [Lit.wf, IntKind.min, IntKind.max, IntKind.signed, IntKind.bits]; omega
theorem seg_size : (Tryd.prog.info? 73).map (·.size) = some 2 := by kernel_rfl
/-- A path that bytes say, or the fault. -/
def RetRd (w : World) (r : Option (List Seg)) (e : Ending) (w' : World) : Prop :=
  Below w.heap.size w w' ∧ match r with
  | none => e = .returned (.tuple #[.slice none 0 0, .int .i64 5])
  | some l => ∃ (A : Option Addr) (n c : Nat) (L : List (Seg × Hd)), e = .returned (.tuple #[.slice A n c, .int .i64 0]) ∧ OP w' w.heap.size A n c L ∧ L.map (·.1) = l
set_option maxHeartbeats 8000000 in
set_option maxRecDepth 100000 in
theorem aspRead (A : Option Addr) (n c : Nat) (l : List UInt8) (wide : Bool) (w : World) (h : BS w w.heap.size A n l) (hn : n ≤ 140737488355320) :
    Calls Tryd.prog 41 #[.slice A n c, .bool wide] w (RetRd w (readA wide l)) := by
  have HLL := Lib.hid (show l.length ≤ 140737488355320 by rw [← h.len]; exact hn)
  go_enter Tryd.func41, Tryd.ntmps41
  go_wp2_with fail
  refine (rbNew A n c l _ h hn).mono ?_
  rintro _ w1 ⟨g, rfl, hg, r1, b1⟩
  have hgl := r1.lt
  obtain ⟨Bd, hBd⟩ : ∃ Bd, w1.heap.size = Bd := ⟨_, rfl⟩
  rw [hBd] at r1 hgl
  have HBD := Lib.hid hBd
  have HWB := Lib.hid (show w.heap.size ≤ Bd by rw [← hBd]; exact b1.size)
  clear hBd
  go_wp2_with fail
  go_loopg [6] 9 (fun gg x wr => ∃ (L : List (Seg × Hd)) (A1 : Option Addr) (n1 c1 : Nat) (t : List UInt8) (s : Bool), x = .slice A1 n1 c1 ∧ OP wr Bd A1 n1 c1 L ∧ RB Bd wr g t s ∧ Hid (InvO (szA wide) l (L.map (·.1)) gg t s) ∧ Below w.heap.size w wr ∧ Bd ≤ wr.heap.size ∧ n1 + gg = 9)
  case atStart => exact ⟨[], none, 0, 0, l, false, rfl, OP.nil_, r1, Lib.hid (InvO.start _ _), b1, Nat.le_of_eq HBD.out.symm, rfl⟩
  case round =>
    obtain ⟨L, A1, n1, c1, t, s, rfl, ho, r, HI, hb, hbd, hng⟩ := hrel
    obtain ⟨wo, rfl⟩ : ∃ wo, wo = wr := ⟨_, rfl⟩
    obtain ⟨gT, hgT⟩ : ∃ gT, gk = gT := ⟨_, rfl⟩
    have HTL := Lib.hid (show t.length ≤ 140737488355320 from Nat.le_trans HI.out.2.1 HLL.out)
    obtain ⟨T, hT⟩ : ∃ T, (if s then 0 else t.length) = T := ⟨_, rfl⟩
    have HLF := Lib.hid (show ∀ w', RB Bd w' g t s → Calls Tryd.prog 79 #[.pointer (some ⟨g, 0, none⟩)] w' fun en w'' => en = .returned (.int .i64 (T : Nat)) ∧ w' = w'' from fun w' h => by rw [← hT]; exact rbLeft g t s w' h)
    have HT := Lib.hid hT
    clear hT
    by_cases hT0 : T = 0
    case pos =>
      subst hT0
      clear hgT
      go_wp2_with fail
      refine (HLF.out _ r).mono ?_
      rintro _ _ ⟨rfl, rfl⟩
      cases s
      case true =>
        have HM := Lib.hid (show readA wide l = none from HI.out.bad)
        go_wp2_with fail
        refine (rbErr g t true _ r).mono ?_
        rintro _ _ ⟨rfl, rfl⟩
        go_wp2_with fail
        go_ret2
        refine ⟨hb, ?_⟩
        rw [HM.out]
        rfl
      case false =>
        have HTN := Lib.hid (show t = [] from List.eq_nil_of_length_eq_zero (by have := HT.out; simpa using this))
        have HM := Lib.hid (show readA wide l = if rightA (L.map (·.1)) = true then some (L.map (·.1)) else none from HI.out.good (.inl HTN.out))
        have hdl := ho.dl
        obtain ⟨rr, hrr⟩ : ∃ rr, rightA (L.map (·.1)) = rr := ⟨_, rfl⟩
        have HRR := Lib.hid hrr
        have HRI := Lib.hid (show ∀ w', DL rSeg 2 w' (Lo w') A1 n1 (L.map (·.1)) → Calls Tryd.prog 32 #[.slice A1 n1 c1] w' fun en w'' => en = .returned (.bool rr) ∧ Below w'.heap.size w' w'' from fun w' h => by rw [← hrr]; exact aspRight A1 n1 c1 _ w' h (by omega))
        clear hrr
        go_wp2_with fail
        refine (rbErr g t false _ r).mono ?_
        rintro _ _ ⟨rfl, rfl⟩
        go_wp2_with fail
        refine (HRI.out _ hdl).mono ?_
        rintro _ w9 ⟨rfl, b9⟩
        have ho9 := ho.call b9
        have b09 := btr hb b9 hb.size
        cases rr
        case true =>
          have HM2 := Lib.hid (show readA wide l = some (L.map (·.1)) by rw [HM.out, HRR.out]; rfl)
          go_wp2_with fail
          go_ret2
          refine ⟨b09, ?_⟩
          rw [HM2.out]
          exact ⟨A1, n1, c1, L, rfl, ho9.low HWB.out, rfl⟩
        case false =>
          have HM2 := Lib.hid (show readA wide l = none by rw [HM.out, HRR.out]; rfl)
          go_wp2_with fail
          go_ret2
          refine ⟨b09, ?_⟩
          rw [HM2.out]
          rfl
    have hTp : 0 < T := by omega
    have d1 : decide (0 < T) = true := decide_eq_true hTp
    clear hT0
    have hsf : s = false := by cases s; rfl; exact absurd HT.out (by simp; omega)
    subst hsf
    have HTL2 := Lib.hid (show t.length = T by have := HT.out; simpa using this)
    cases gk with
    | zero =>
      have hn9 : n1 = 9 := by omega
      have d2 : decide (n1 ≤ 8) = false := decide_eq_false (by omega)
      have d3 : decide ((n1 : Int) ≤ 8) = false := decide_eq_false (by omega)
      have HGG := Lib.hid hgT
      clear hgT hn9
      go_wp2_with fail
      refine (HLF.out _ r).mono ?_
      rintro _ _ ⟨rfl, rfl⟩
      have HM := Lib.hid (show readA wide l = if rightA (L.map (·.1)) = true then some (L.map (·.1)) else none from HI.out.good (.inr rfl))
      have hdl := ho.dl
      obtain ⟨rr, hrr⟩ : ∃ rr, rightA (L.map (·.1)) = rr := ⟨_, rfl⟩
      have HRR := Lib.hid hrr
      have HRI := Lib.hid (show ∀ w', DL rSeg 2 w' (Lo w') A1 n1 (L.map (·.1)) → Calls Tryd.prog 32 #[.slice A1 n1 c1] w' fun en w'' => en = .returned (.bool rr) ∧ Below w'.heap.size w' w'' from fun w' h => by rw [← hrr]; exact aspRight A1 n1 c1 _ w' h (by omega))
      clear hrr
      go_wp2_with fail
      refine (rbErr g t false _ r).mono ?_
      rintro _ _ ⟨rfl, rfl⟩
      go_wp2_with fail
      refine (HRI.out _ hdl).mono ?_
      rintro _ w9 ⟨rfl, b9⟩
      have ho9 := ho.call b9
      have b09 := btr hb b9 hb.size
      cases rr
      case true =>
        have HM2 := Lib.hid (show readA wide l = some (L.map (·.1)) by rw [HM.out, HRR.out]; rfl)
        go_wp2_with fail
        go_ret2
        refine ⟨b09, ?_⟩
        rw [HM2.out]
        exact ⟨A1, n1, c1, L, rfl, ho9.low HWB.out, rfl⟩
      case false =>
        have HM2 := Lib.hid (show readA wide l = none by rw [HM.out, HRR.out]; rfl)
        go_wp2_with fail
        go_ret2
        refine ⟨b09, ?_⟩
        rw [HM2.out]
        rfl
    | succ f =>
      clear hgT
      have hn8 : n1 ≤ 8 := by omega
      have d2 : decide (n1 ≤ 8) = true := decide_eq_true (by omega)
      have d3 : decide ((n1 : Int) ≤ 8) = true := decide_eq_true (by omega)
      obtain ⟨K, t1, s1, E1⟩ : ∃ v1 l1 s1, numL (tkOut t false (1 : Nat)) = v1 ∧ tkLeft t false (1 : Nat) = l1 ∧ tkShort t false (1 : Nat) = s1 := ⟨_, _, _, rfl, rfl, rfl⟩
      obtain ⟨C, t2, s2, E2⟩ : ∃ v1 l1 s', numL (tkOut t1 s1 (1 : Nat)) = v1 ∧ tkLeft t1 s1 (1 : Nat) = l1 ∧ tkShort t1 s1 (1 : Nat) = s' := ⟨_, _, _, rfl, rfl, rfl⟩
      have hC : C ≤ 255 := by rw [← E2.1]; have := tkOut_num t1 s1 1; omega
      have hK : K ≤ 255 := by rw [← E1.1]; have := tkOut_num t false 1; omega
      have HL1 := Lib.hid (show t1.length ≤ t.length by rw [← E1.2.1]; exact tkLeft_len _ _ _)
      have HL2 := Lib.hid (show t2.length ≤ t1.length by rw [← E2.2.1]; exact tkLeft_len _ _ _)
      have HB1 := Lib.hid (show ∀ w', RB Bd w' g t false → Calls Tryd.prog 80 #[.pointer (some ⟨g, 0, none⟩)] w' fun en w'' => en = .returned (.int .i64 (K : Nat)) ∧ RB Bd w'' g t1 s1 ∧ w'.grownBy w'' (some g) from fun w' h => by have := rbByte g t false w' h HTL.out; rw [E1.1, E1.2.1, E1.2.2] at this; exact this)
      have HB2 := Lib.hid (show ∀ w', RB Bd w' g t1 s1 → Calls Tryd.prog 80 #[.pointer (some ⟨g, 0, none⟩)] w' fun en w'' => en = .returned (.int .i64 (C : Nat)) ∧ RB Bd w'' g t2 s2 ∧ w'.grownBy w'' (some g) from fun w' h => by have := rbByte g t1 s1 w' h (Nat.le_trans HL1.out HTL.out); rw [E2.1, E2.2.1, E2.2.2] at this; exact this)
      have HE1 := Lib.hid E1
      have HE2 := Lib.hid E2
      clear E1 E2
      have HNE := Lib.hid (show t ≠ [] from fun e => by have h1 := HTL2.out; rw [e] at h1; simp at h1; omega)
      obtain ⟨cs0, hrb⟩ := r.blk
      go_wp2_with fail
      refine (HLF.out _ r).mono ?_
      rintro _ _ ⟨rfl, rfl⟩
      go_wp2_with fail
      refine (HB1.out _ r).mono ?_
      rintro _ w2 ⟨rfl, r2, g2⟩
      have z2 := g2.size
      go_wp2_with fail
      obtain ⟨w3, hw3, hQ3, b3⟩ := box1c w2 #[.int .i64 K, .slice none 0 0] 73
      try rw [hw3]
      clear hw3
      have hQl3 := hQ3.lt
      obtain ⟨q, hq⟩ : ∃ q, w2.heap.size = q := ⟨_, rfl⟩
      have g3 := grown_below g2 (b3.mono z2)
      have r3 := r2.below b3 (by omega) (by omega)
      rw [hq] at hQ3 hQl3
      try rw [hq]
      have hqo : wo.heap.size ≤ q := by omega
      clear hq b3
      refine (HB2.out _ r3).mono ?_
      rintro _ w4 ⟨rfl, r4, g4⟩
      have z4 := g4.size
      have hgq : q ≠ g := by omega
      have hQ4 := hQ3.grown g4 (by intro e; injection e with e; omega)
      have g04 := grown_tr g3 g4
      obtain ⟨B4, hB4⟩ : ∃ B4, w4.heap.size = B4 := ⟨_, rfl⟩
      have HB4 := Lib.hid hB4
      have hqB : q < B4 := by rw [← hB4]; omega
      have hoB : wo.heap.size ≤ B4 := by omega
      clear hB4
      have HII := Lib.hid (InvN.start (szA wide) C t2 s2)
      go_wp2_with fail
      go_loopw [9] (fun x wi => ∃ (m : Nat) (acc : List Int) (A2 : Option Addr) (n2 c2 : Nat) (t3 : List UInt8) (s3 : Bool), x = .int .i64 (m : Int) ∧ m ≤ 255 ∧ RB Bd wi g t3 s3 ∧ Blk wi q 73 #[.int .i64 K, .slice A2 n2 c2] ∧ OU wi B4 A2 n2 c2 acc ∧ wo.grownBy wi (some g) ∧ B4 ≤ wi.heap.size ∧ Hid (InvN (szA wide) C t2 s2 acc m t3 s3)) (fun x _ => (intOf x).toNat)
      case atStart => exact ⟨C, [], none, 0, 0, t2, s2, rfl, hC, r4, hQ4, OU.nil_, g04, Nat.le_of_eq HB4.out.symm, HII⟩
      case round =>
        obtain ⟨m, acc, A2, n2, c2, t3, s3, rfl, hm, ri, hQi, oi, gi, zi, HIi⟩ := hrel
        have HA := Lib.hid (show acc.length ≤ 255 by have := HIi.out.1; omega)
        by_cases hm0 : m = 0
        case pos =>
          subst hm0
          have HIO := Lib.hid (HI.out.step HNE.out HE1.out HE2.out HIi.out (.inr rfl))
          have hoi := ho.at_g hrb (by decide) (by decide) gi
          have bi := at_below hb gi hb.size (by omega)
          have oa := own_alloc2 hoi.2.1 (.cells #[.int .i64 K, .slice A2 n2 c2] 73)
          have B5 := bi.alloc bi.size (.cells #[.int .i64 K, .slice A2 n2 c2] 73)
          have HOP := (hoi.call ((Below.refl wr.heap.size wr).alloc (Nat.le_refl _) (.cells #[.int .i64 K, .slice A2 n2 c2] 73)))
          have hwB : Bd ≤ B4 := by omega
          have o3a := (oi.alloc (.cells #[.int .i64 K, .slice A2 n2 c2] 73)).low hwB
          have HAP := Lib.hid (ho.apt (y := (((K : Int), acc), (A2, n2, c2))) oi hoB)
          have ra := ri.below ((Below.refl wr.heap.size wr).alloc (Nat.le_refl _) (.cells #[.int .i64 K, .slice A2 n2 c2] 73)) (by omega) ri.lt
          have hbsz := bi.size
          have x0 : wr.cell? ⟨q, 0, none⟩ = some (.int .i64 (K : Int)) := hQi.cell 0
          have x1 : wr.cell? ⟨q, 1, none⟩ = some (.slice A2 n2 c2) := hQi.cell 1
          go_wp2_with (at_builtin; refine wpl_appR rfl (.tmp 50) (.tmp 52) 22 rfl 73 _ 2 32 Tryd.underlying22 seg_info rfl (by omega) Bd _ n1 _ _ (by rfl) oa (wr.heap.size + 1) (some ⟨wr.heap.size, 0, none⟩) 1 1 [.int .i64 K, .slice A2 n2 c2] (by rfl) (Reads.two wr 73 (.int .i64 K) (.slice A2 n2 c2) rfl) (by intro u hu; simp at hu; rcases hu with rfl | rfl <;> rfl) (by unfold maxLen; omega) (by omega) (by simp; omega) ?_; intro A6 c6 w6 o6 b6 g6 _)
          have hO6 := HOP.push (y := (((K : Int), acc), (A2, n2, c2))) o3a HAP.out o6 g6
          have r6 := ra.grown g6 (fun k hk => by
            have h1 := (hoi.2.1.lt k hk).1
            exact ⟨by omega, by omega⟩)
          have z6 := b6.size
          go_roundg f
          case measure => omega
          case rel => exact ⟨L ++ [(((K : Int), acc), (A2, n2, c2))], A6, _, c6, t3, _, rfl, hO6, r6, Lib.hid (by rw [List.map_append]; exact HIO.out), B5.trans (b6.mono HWB.out), by simp at z6; omega, by omega⟩
        have hmp : 0 < m := by omega
        have d4 : decide (0 < m) = true := decide_eq_true hmp
        have HMP := Lib.hid hmp
        clear hm0 hmp
        cases s3
        case true =>
          go_wp2_with fail
          refine (rbErr g t3 true _ ri).mono ?_
          rintro _ _ ⟨rfl, rfl⟩
          have HIO := Lib.hid (HI.out.step HNE.out HE1.out HE2.out HIi.out (.inl rfl))
          have hoi := ho.at_g hrb (by decide) (by decide) gi
          have bi := at_below hb gi hb.size (by omega)
          have oa := own_alloc2 hoi.2.1 (.cells #[.int .i64 K, .slice A2 n2 c2] 73)
          have B5 := bi.alloc bi.size (.cells #[.int .i64 K, .slice A2 n2 c2] 73)
          have HOP := (hoi.call ((Below.refl wr.heap.size wr).alloc (Nat.le_refl _) (.cells #[.int .i64 K, .slice A2 n2 c2] 73)))
          have hwB : Bd ≤ B4 := by omega
          have o3a := (oi.alloc (.cells #[.int .i64 K, .slice A2 n2 c2] 73)).low hwB
          have HAP := Lib.hid (ho.apt (y := (((K : Int), acc), (A2, n2, c2))) oi hoB)
          have ra := ri.below ((Below.refl wr.heap.size wr).alloc (Nat.le_refl _) (.cells #[.int .i64 K, .slice A2 n2 c2] 73)) (by omega) ri.lt
          have hbsz := bi.size
          have x0 : wr.cell? ⟨q, 0, none⟩ = some (.int .i64 (K : Int)) := hQi.cell 0
          have x1 : wr.cell? ⟨q, 1, none⟩ = some (.slice A2 n2 c2) := hQi.cell 1
          go_wp2_with (at_builtin; refine wpl_appR rfl (.tmp 50) (.tmp 52) 22 rfl 73 _ 2 32 Tryd.underlying22 seg_info rfl (by omega) Bd _ n1 _ _ (by rfl) oa (wr.heap.size + 1) (some ⟨wr.heap.size, 0, none⟩) 1 1 [.int .i64 K, .slice A2 n2 c2] (by rfl) (Reads.two wr 73 (.int .i64 K) (.slice A2 n2 c2) rfl) (by intro u hu; simp at hu; rcases hu with rfl | rfl <;> rfl) (by unfold maxLen; omega) (by omega) (by simp; omega) ?_; intro A6 c6 w6 o6 b6 g6 _)
          have hO6 := HOP.push (y := (((K : Int), acc), (A2, n2, c2))) o3a HAP.out o6 g6
          have r6 := ra.grown g6 (fun k hk => by
            have h1 := (hoi.2.1.lt k hk).1
            exact ⟨by omega, by omega⟩)
          have z6 := b6.size
          go_roundg f
          case measure => omega
          case rel => exact ⟨L ++ [(((K : Int), acc), (A2, n2, c2))], A6, _, c6, t3, _, rfl, hO6, r6, Lib.hid (by rw [List.map_append]; exact HIO.out), B5.trans (b6.mono HWB.out), by simp at z6; omega, by omega⟩
        case false =>
          have HIi2 := Lib.hid (show InvN (szA wide) C t2 s2 acc ((m - 1) + 1) t3 false by rw [show m - 1 + 1 = m by have := HMP.out; omega]; exact HIi.out)
          have HT3 := Lib.hid (show t3.length ≤ 140737488355320 by have h1 := HIi.out.2.1; have h2 := HL2.out; have h3 := HL1.out; have h4 := HTL.out; omega)
          have wj : IntKind.i64.wrap ((m : Int) - 1) = ((m - 1 : Nat) : Int) := by rw [show ((m - 1 : Nat) : Int) = (m : Int) - 1 by have := HMP.out; omega]; exact IntWalk.i64_in _ ⟨by have := HMP.out; omega, by have := HMP.out; omega⟩
          have hQd : Blk wr.drew q 73 #[.int .i64 K, .slice A2 n2 c2] := hQi
          have rid : RB Bd wr.drew g t3 false := ri
          have oid : OU wr.drew B4 A2 n2 c2 acc := oi
          have gid : wo.grownBy wr.drew (some g) := ⟨gi.os, gi.tape, gi.output, gi.size, gi.block⟩
          have zid : B4 ≤ wr.drew.heap.size := zi
          have q1d := hQd.cell 1
          have hgo : g < wo.heap.size := hrb.lt
          cases wide
          case true =>
            obtain ⟨V, t4, s4, E3⟩ : ∃ v1 l1 s', numL (tkOut t3 false (4 : Nat)) = v1 ∧ tkLeft t3 false (4 : Nat) = l1 ∧ tkShort t3 false (4 : Nat) = s' := ⟨_, _, _, rfl, rfl, rfl⟩
            have HV := Lib.hid (show V < 4294967296 by rw [← E3.1]; have := tkOut_num t3 false 4; omega)
            have HB3 := Lib.hid (show ∀ w', RB Bd w' g t3 false → Calls Tryd.prog 82 #[.pointer (some ⟨g, 0, none⟩)] w' fun en w'' => en = .returned (.int .u32 (V : Nat)) ∧ RB Bd w'' g t4 s4 ∧ w'.grownBy w'' (some g) from fun w' h => by have := rbU32 g t3 false w' h HT3.out; rw [E3.1, E3.2.1, E3.2.2] at this; exact this)
            have HIN := Lib.hid (show InvN (szA true) C t2 s2 (acc ++ [(V : Int)]) (m - 1) t4 s4 by have := (show InvN 4 C t2 s2 acc ((m - 1) + 1) t3 false from HIi2.out).step; rw [E3.1, E3.2.1, E3.2.2] at this; exact this)
            have hvw : (Lit.int .u32 (V : Int)).wf = true := un32 (by have := HV.out; omega)
            clear E3
            go_wp2_with fail
            refine (rbErr g t3 false _ ri).mono ?_
            rintro _ _ ⟨rfl, rfl⟩
            go_upto_region 9 with fail
            rename_i hk
            have HKK := Lib.hid hk
            clear hk
            refine wp_region_held_drew (S := (fun _ => True)) (by kernel_rfl) ?_ (fun hHeld => ?_)
            · first | done | trivial
            refine wpAnyH_take (i := 0) (v := ?p9v0) rfl (by kernel_rfl) (by kernel_rfl) (by kernel_rfl) (by intro _ _ _ h; exact h) (Or.inl ⟨by rfl, ?p9hy0⟩) (by assumption) ?p9rest0
            case p9hy0 => (intro w hSw; (try dsimp only at hSw); go_simp; try with_reducible rfl)
            try simp only [Act.put, List.getElem_toArray, List.getElem_cons_succ, List.getElem_cons_zero, List.setIfInBounds_toArray, List.set_cons_zero, List.set_cons_succ]
            refine wpAnyH_take (i := 2) (v := ?p9v2) rfl (by kernel_rfl) (by kernel_rfl) (by kernel_rfl) (by intro _ _ _ h; exact h) (Or.inl ⟨by rfl, ?p9hy2⟩) (by assumption) ?p9rest2
            case p9hy2 => (intro w hSw; (try dsimp only at hSw); go_simp; try with_reducible rfl)
            try simp only [Act.put, List.getElem_toArray, List.getElem_cons_succ, List.getElem_cons_zero, List.setIfInBounds_toArray, List.set_cons_zero, List.set_cons_succ]
            refine wpAnyH_ready (rs := [1, 3]) (by kernel_rfl) (by simp) ?_
            refine AllReadyH.cons rfl (fun K hK => ?_) (AllReadyH.cons rfl (fun K hK => ?_) AllReadyH.nil)
            · skip
              go_simp
              go_wp2_with (fail)
              refine hK.out _ _ trivial (fun hHeld => ?_)
              clear hK K
              refine wpAnyH_ready (rs := [3]) (by kernel_rfl) (by simp) ?_
              refine AllReadyH.cons rfl (fun K hK => ?_) AllReadyH.nil
              go_simp
              go_wp2_with ((go_at_call 82; refine (HB3.out _ rid).mono ?_; rintro _ w5 ⟨rfl, r5, g5⟩; have z5 := g5.size; have hQ5 := hQd.grown g5 (by intro e; injection e with e; omega); have q15 := hQ5.cell 1; obtain ⟨cs1, hrb1⟩ := rid.blk; have o5 := oid.at_g hrb1 (by decide) g5; have al5 := o5.alloc (.cells #[.int .u32 (V : Int)] 33); have hQ5a := hQ5.alloc (.cells #[.int .u32 (V : Int)] 33); have q15a := hQ5a.cell 1; have r5a := r5.below ((Below.refl w5.heap.size w5).alloc (Nat.le_refl _) (.cells #[.int .u32 (V : Int)] 33)) (by omega) r5.lt; have g05 := grown_tr gid g5; have HSZ5 := Lib.hid (show B4 ≤ (w5.alloc (.cells #[.int .u32 (V : Int)] 33)).heap.size by simp; omega)))
              refine hK.out _ _ trivial (fun hHeld => ?_)
              clear hK K
              refine wpAnyH_ready (rs := [4]) (by kernel_rfl) (by simp) ?_
              refine AllReadyH.cons rfl (fun K hK => ?_) AllReadyH.nil
              go_simp
              go_wp2_with (fail)
              refine hK.out _ _ trivial (fun hHeld => ?_)
              clear hK K
              refine wpAnyH_ready (rs := [5]) (by kernel_rfl) (by simp) ?_
              refine AllReadyH.cons rfl (fun K hK => ?_) AllReadyH.nil
              refine step_appU rfl (.tmp 36) (.tmp 39) rfl B4 A2 n2 c2 acc (by rfl) al5 (w5.heap.size + 1) (some ⟨w5.heap.size, 0, none⟩) 1 1 [(V : Int)] (by rfl) (NS.one w5 hvw rfl) (by have := HA.out; simp; omega) HSZ5.out ?_; intro A6 n6 c6 w6 o6 b6 g6 hat; have hQ6 := hQ5a.grown g6 (by intro e; first | exact own_blk_ne al5.2.1 hQ5a (by decide) e | exact own_blk_ne al5.2.1 hQ5a (by decide) e.symm); have f1 := hQ6.frozen 1; have q16 := hQ6.cell 1
              refine hK.out _ _ ?_ (fun hHeld => ?_)
              · try dsimp only
                first | done | trivial
              clear hK K
              refine wpAnyH_take (i := 6) (v := ?b9v6) rfl (by kernel_rfl) (by kernel_rfl) (by kernel_rfl) (by intro _ _ _ h; exact h) (Or.inl ⟨by rfl, ?b9hy6⟩) (by assumption) ?b9rest6
              case b9hy6 => (intro w hSw; (try dsimp only at hSw); go_simp; try with_reducible rfl)
              try simp only [Act.put, List.getElem_toArray, List.getElem_cons_succ, List.getElem_cons_zero, List.setIfInBounds_toArray, List.set_cons_zero, List.set_cons_succ]
              refine wpAnyH_ready (rs := [7]) (by kernel_rfl) (by simp) ?_
              refine AllReadyH.cons rfl (fun K hK => ?_) AllReadyH.nil
              go_simp
              go_wp2_with (fail)
              refine hK.out _ _ ?_ (fun hHeld => ?_)
              · try dsimp only
                first | done | trivial
              clear hK K
              refine wpAnyH_done (by kernel_rfl) ?_ _
              refine HKK.out _ _ ?_
              have r6 := r5a.grown g6 (fun k hk => by
                have h1 := (al5.2.1.lt k hk).1
                exact ⟨by omega, by omega⟩)
              have hQ7 := hQ6.set_ 1 (.slice A6 n6 c6)
              simp only [List.setIfInBounds_toArray, List.set_cons_succ, List.set_cons_zero] at hQ7
              have gq := only_setCell (World.grownBy.refl w6 (some q)) (p := ⟨q, 1, none⟩) (.inl rfl) (.slice A6 n6 c6)
              have o7 := o6.at_g hQ6 (by decide) gq
              have r7 := r6.setCell (p := ⟨q, 1, none⟩) (by show Bd ≤ q; omega) (by show q ≠ g; omega) (.slice A6 n6 c6)
              have b57 : Below wo.heap.size w5 (w6.setCell ⟨q, 1, none⟩ (.slice A6 n6 c6)) := (((Below.refl wo.heap.size w5).alloc (by omega) (.cells #[.int .u32 (V : Int)] 33)).trans (b6.mono (by omega))).setCell (p := ⟨q, 1, none⟩) (by show wo.heap.size ≤ q; omega) (.slice A6 n6 c6)
              have g07 := grown_below g05 b57
              have z7 : B4 ≤ (w6.setCell ⟨q, 1, none⟩ (.slice A6 n6 c6)).heap.size := by have h1 := b6.size; have h2 := HSZ5.out; simp [World.setCell] at h1 h2 ⊢; omega
              clear q16 f1 q15 q15a q1d
              go_wp2_with fail
              go_roundw
              case rel => exact ⟨m - 1, acc ++ [(V : Int)], A6, n6, c6, t4, s4, rfl, by omega, r7, hQ7, o7, g07, z7, HIN⟩
              case measure => have := HMP.out; simp [intOf]; omega
            · skip
              go_simp
              go_wp2_with ((go_at_call 82; refine (HB3.out _ rid).mono ?_; rintro _ w5 ⟨rfl, r5, g5⟩; have z5 := g5.size; have hQ5 := hQd.grown g5 (by intro e; injection e with e; omega); have q15 := hQ5.cell 1; obtain ⟨cs1, hrb1⟩ := rid.blk; have o5 := oid.at_g hrb1 (by decide) g5; have al5 := o5.alloc (.cells #[.int .u32 (V : Int)] 33); have hQ5a := hQ5.alloc (.cells #[.int .u32 (V : Int)] 33); have q15a := hQ5a.cell 1; have r5a := r5.below ((Below.refl w5.heap.size w5).alloc (Nat.le_refl _) (.cells #[.int .u32 (V : Int)] 33)) (by omega) r5.lt; have g05 := grown_tr gid g5; have HSZ5 := Lib.hid (show B4 ≤ (w5.alloc (.cells #[.int .u32 (V : Int)] 33)).heap.size by simp; omega)))
              refine hK.out _ _ trivial (fun hHeld => ?_)
              clear hK K
              refine wpAnyH_ready (rs := [1, 4]) (by kernel_rfl) (by simp) ?_
              refine AllReadyH.cons rfl (fun K hK => ?_) (AllReadyH.cons rfl (fun K hK => ?_) AllReadyH.nil)
              · skip
                go_simp
                go_wp2_with (fail)
                refine hK.out _ _ trivial (fun hHeld => ?_)
                clear hK K
                refine wpAnyH_ready (rs := [4]) (by kernel_rfl) (by simp) ?_
                refine AllReadyH.cons rfl (fun K hK => ?_) AllReadyH.nil
                go_simp
                go_wp2_with (fail)
                refine hK.out _ _ trivial (fun hHeld => ?_)
                clear hK K
                refine wpAnyH_ready (rs := [5]) (by kernel_rfl) (by simp) ?_
                refine AllReadyH.cons rfl (fun K hK => ?_) AllReadyH.nil
                refine step_appU rfl (.tmp 36) (.tmp 39) rfl B4 A2 n2 c2 acc (by rfl) al5 (w5.heap.size + 1) (some ⟨w5.heap.size, 0, none⟩) 1 1 [(V : Int)] (by rfl) (NS.one w5 hvw rfl) (by have := HA.out; simp; omega) HSZ5.out ?_; intro A6 n6 c6 w6 o6 b6 g6 hat; have hQ6 := hQ5a.grown g6 (by intro e; first | exact own_blk_ne al5.2.1 hQ5a (by decide) e | exact own_blk_ne al5.2.1 hQ5a (by decide) e.symm); have f1 := hQ6.frozen 1; have q16 := hQ6.cell 1
                refine hK.out _ _ ?_ (fun hHeld => ?_)
                · try dsimp only
                  first | done | trivial
                clear hK K
                refine wpAnyH_take (i := 6) (v := ?d9v6) rfl (by kernel_rfl) (by kernel_rfl) (by kernel_rfl) (by intro _ _ _ h; exact h) (Or.inl ⟨by rfl, ?d9hy6⟩) (by assumption) ?d9rest6
                case d9hy6 => (intro w hSw; (try dsimp only at hSw); go_simp; try with_reducible rfl)
                try simp only [Act.put, List.getElem_toArray, List.getElem_cons_succ, List.getElem_cons_zero, List.setIfInBounds_toArray, List.set_cons_zero, List.set_cons_succ]
                refine wpAnyH_ready (rs := [7]) (by kernel_rfl) (by simp) ?_
                refine AllReadyH.cons rfl (fun K hK => ?_) AllReadyH.nil
                go_simp
                go_wp2_with (fail)
                refine hK.out _ _ ?_ (fun hHeld => ?_)
                · try dsimp only
                  first | done | trivial
                clear hK K
                refine wpAnyH_done (by kernel_rfl) ?_ _
                refine HKK.out _ _ ?_
                have r6 := r5a.grown g6 (fun k hk => by
                  have h1 := (al5.2.1.lt k hk).1
                  exact ⟨by omega, by omega⟩)
                have hQ7 := hQ6.set_ 1 (.slice A6 n6 c6)
                simp only [List.setIfInBounds_toArray, List.set_cons_succ, List.set_cons_zero] at hQ7
                have gq := only_setCell (World.grownBy.refl w6 (some q)) (p := ⟨q, 1, none⟩) (.inl rfl) (.slice A6 n6 c6)
                have o7 := o6.at_g hQ6 (by decide) gq
                have r7 := r6.setCell (p := ⟨q, 1, none⟩) (by show Bd ≤ q; omega) (by show q ≠ g; omega) (.slice A6 n6 c6)
                have b57 : Below wo.heap.size w5 (w6.setCell ⟨q, 1, none⟩ (.slice A6 n6 c6)) := (((Below.refl wo.heap.size w5).alloc (by omega) (.cells #[.int .u32 (V : Int)] 33)).trans (b6.mono (by omega))).setCell (p := ⟨q, 1, none⟩) (by show wo.heap.size ≤ q; omega) (.slice A6 n6 c6)
                have g07 := grown_below g05 b57
                have z7 : B4 ≤ (w6.setCell ⟨q, 1, none⟩ (.slice A6 n6 c6)).heap.size := by have h1 := b6.size; have h2 := HSZ5.out; simp [World.setCell] at h1 h2 ⊢; omega
                clear q16 f1 q15 q15a q1d
                go_wp2_with fail
                go_roundw
                case rel => exact ⟨m - 1, acc ++ [(V : Int)], A6, n6, c6, t4, s4, rfl, by omega, r7, hQ7, o7, g07, z7, HIN⟩
                case measure => have := HMP.out; simp [intOf]; omega
              · skip
                go_simp
                go_wp2_with (fail)
                refine hK.out _ _ trivial (fun hHeld => ?_)
                clear hK K
                refine wpAnyH_ready (rs := [1]) (by kernel_rfl) (by simp) ?_
                refine AllReadyH.cons rfl (fun K hK => ?_) AllReadyH.nil
                go_simp
                go_wp2_with (fail)
                refine hK.out _ _ trivial (fun hHeld => ?_)
                clear hK K
                refine wpAnyH_ready (rs := [5]) (by kernel_rfl) (by simp) ?_
                refine AllReadyH.cons rfl (fun K hK => ?_) AllReadyH.nil
                refine step_appU rfl (.tmp 36) (.tmp 39) rfl B4 A2 n2 c2 acc (by rfl) al5 (w5.heap.size + 1) (some ⟨w5.heap.size, 0, none⟩) 1 1 [(V : Int)] (by rfl) (NS.one w5 hvw rfl) (by have := HA.out; simp; omega) HSZ5.out ?_; intro A6 n6 c6 w6 o6 b6 g6 hat; have hQ6 := hQ5a.grown g6 (by intro e; first | exact own_blk_ne al5.2.1 hQ5a (by decide) e | exact own_blk_ne al5.2.1 hQ5a (by decide) e.symm); have f1 := hQ6.frozen 1; have q16 := hQ6.cell 1
                refine hK.out _ _ ?_ (fun hHeld => ?_)
                · try dsimp only
                  first | done | trivial
                clear hK K
                refine wpAnyH_take (i := 6) (v := ?e9v6) rfl (by kernel_rfl) (by kernel_rfl) (by kernel_rfl) (by intro _ _ _ h; exact h) (Or.inl ⟨by rfl, ?e9hy6⟩) (by assumption) ?e9rest6
                case e9hy6 => (intro w hSw; (try dsimp only at hSw); go_simp; try with_reducible rfl)
                try simp only [Act.put, List.getElem_toArray, List.getElem_cons_succ, List.getElem_cons_zero, List.setIfInBounds_toArray, List.set_cons_zero, List.set_cons_succ]
                refine wpAnyH_ready (rs := [7]) (by kernel_rfl) (by simp) ?_
                refine AllReadyH.cons rfl (fun K hK => ?_) AllReadyH.nil
                go_simp
                go_wp2_with (fail)
                refine hK.out _ _ ?_ (fun hHeld => ?_)
                · try dsimp only
                  first | done | trivial
                clear hK K
                refine wpAnyH_done (by kernel_rfl) ?_ _
                refine HKK.out _ _ ?_
                have r6 := r5a.grown g6 (fun k hk => by
                  have h1 := (al5.2.1.lt k hk).1
                  exact ⟨by omega, by omega⟩)
                have hQ7 := hQ6.set_ 1 (.slice A6 n6 c6)
                simp only [List.setIfInBounds_toArray, List.set_cons_succ, List.set_cons_zero] at hQ7
                have gq := only_setCell (World.grownBy.refl w6 (some q)) (p := ⟨q, 1, none⟩) (.inl rfl) (.slice A6 n6 c6)
                have o7 := o6.at_g hQ6 (by decide) gq
                have r7 := r6.setCell (p := ⟨q, 1, none⟩) (by show Bd ≤ q; omega) (by show q ≠ g; omega) (.slice A6 n6 c6)
                have b57 : Below wo.heap.size w5 (w6.setCell ⟨q, 1, none⟩ (.slice A6 n6 c6)) := (((Below.refl wo.heap.size w5).alloc (by omega) (.cells #[.int .u32 (V : Int)] 33)).trans (b6.mono (by omega))).setCell (p := ⟨q, 1, none⟩) (by show wo.heap.size ≤ q; omega) (.slice A6 n6 c6)
                have g07 := grown_below g05 b57
                have z7 : B4 ≤ (w6.setCell ⟨q, 1, none⟩ (.slice A6 n6 c6)).heap.size := by have h1 := b6.size; have h2 := HSZ5.out; simp [World.setCell] at h1 h2 ⊢; omega
                clear q16 f1 q15 q15a q1d
                go_wp2_with fail
                go_roundw
                case rel => exact ⟨m - 1, acc ++ [(V : Int)], A6, n6, c6, t4, s4, rfl, by omega, r7, hQ7, o7, g07, z7, HIN⟩
                case measure => have := HMP.out; simp [intOf]; omega
          case false =>
            obtain ⟨V, t4, s4, E3⟩ : ∃ v1 l1 s', numL (tkOut t3 false (2 : Nat)) = v1 ∧ tkLeft t3 false (2 : Nat) = l1 ∧ tkShort t3 false (2 : Nat) = s' := ⟨_, _, _, rfl, rfl, rfl⟩
            have HV := Lib.hid (show V < 65536 by rw [← E3.1]; have := tkOut_num t3 false 2; omega)
            have HB3 := Lib.hid (show ∀ w', RB Bd w' g t3 false → Calls Tryd.prog 83 #[.pointer (some ⟨g, 0, none⟩)] w' fun en w'' => en = .returned (.int .i64 (V : Nat)) ∧ RB Bd w'' g t4 s4 ∧ w'.grownBy w'' (some g) from fun w' h => by have := rbU16 g t3 false w' h HT3.out; rw [E3.1, E3.2.1, E3.2.2] at this; exact this)
            have HIN := Lib.hid (show InvN (szA false) C t2 s2 (acc ++ [(V : Int)]) (m - 1) t4 s4 by have := (show InvN 2 C t2 s2 acc ((m - 1) + 1) t3 false from HIi2.out).step; rw [E3.1, E3.2.1, E3.2.2] at this; exact this)
            have hvw : (Lit.int .u32 (V : Int)).wf = true := un32 (by have := HV.out; omega)
            have hcw : IntKind.u32.wrap (V : Int) = (V : Int) := by rw [IntKind.wrap_u32]; have := HV.out; omega
            clear E3
            go_wp2_with fail
            refine (rbErr g t3 false _ ri).mono ?_
            rintro _ _ ⟨rfl, rfl⟩
            go_upto_region 10 with fail
            rename_i hk
            have HKK := Lib.hid hk
            clear hk
            refine wp_region_held_drew (S := (fun _ => True)) (by kernel_rfl) ?_ (fun hHeld => ?_)
            · first | done | trivial
            refine wpAnyH_take (i := 0) (v := ?p10v0) rfl (by kernel_rfl) (by kernel_rfl) (by kernel_rfl) (by intro _ _ _ h; exact h) (Or.inl ⟨by rfl, ?p10hy0⟩) (by assumption) ?p10rest0
            case p10hy0 => (intro w hSw; (try dsimp only at hSw); go_simp; try with_reducible rfl)
            try simp only [Act.put, List.getElem_toArray, List.getElem_cons_succ, List.getElem_cons_zero, List.setIfInBounds_toArray, List.set_cons_zero, List.set_cons_succ]
            refine wpAnyH_take (i := 2) (v := ?p10v2) rfl (by kernel_rfl) (by kernel_rfl) (by kernel_rfl) (by intro _ _ _ h; exact h) (Or.inl ⟨by rfl, ?p10hy2⟩) (by assumption) ?p10rest2
            case p10hy2 => (intro w hSw; (try dsimp only at hSw); go_simp; try with_reducible rfl)
            try simp only [Act.put, List.getElem_toArray, List.getElem_cons_succ, List.getElem_cons_zero, List.setIfInBounds_toArray, List.set_cons_zero, List.set_cons_succ]
            refine wpAnyH_ready (rs := [1, 3]) (by kernel_rfl) (by simp) ?_
            refine AllReadyH.cons rfl (fun K hK => ?_) (AllReadyH.cons rfl (fun K hK => ?_) AllReadyH.nil)
            · skip
              go_simp
              go_wp2_with (fail)
              refine hK.out _ _ trivial (fun hHeld => ?_)
              clear hK K
              refine wpAnyH_ready (rs := [3]) (by kernel_rfl) (by simp) ?_
              refine AllReadyH.cons rfl (fun K hK => ?_) AllReadyH.nil
              go_simp
              go_wp2_with ((go_at_call 83; refine (HB3.out _ rid).mono ?_; rintro _ w5 ⟨rfl, r5, g5⟩; have z5 := g5.size; have hQ5 := hQd.grown g5 (by intro e; injection e with e; omega); have q15 := hQ5.cell 1; obtain ⟨cs1, hrb1⟩ := rid.blk; have o5 := oid.at_g hrb1 (by decide) g5; have al5 := o5.alloc (.cells #[.int .u32 (V : Int)] 33); have hQ5a := hQ5.alloc (.cells #[.int .u32 (V : Int)] 33); have q15a := hQ5a.cell 1; have r5a := r5.below ((Below.refl w5.heap.size w5).alloc (Nat.le_refl _) (.cells #[.int .u32 (V : Int)] 33)) (by omega) r5.lt; have g05 := grown_tr gid g5; have HSZ5 := Lib.hid (show B4 ≤ (w5.alloc (.cells #[.int .u32 (V : Int)] 33)).heap.size by simp; omega)))
              refine hK.out _ _ trivial (fun hHeld => ?_)
              clear hK K
              refine wpAnyH_take (i := 4) (v := ?a10v4) rfl (by kernel_rfl) (by kernel_rfl) (by kernel_rfl) (by intro _ _ _ h; exact h) (Or.inl ⟨by rfl, ?a10hy4⟩) (by assumption) ?a10rest4
              case a10hy4 => (intro w hSw; (try dsimp only at hSw); go_simp; try with_reducible rfl)
              try simp only [Act.put, List.getElem_toArray, List.getElem_cons_succ, List.getElem_cons_zero, List.setIfInBounds_toArray, List.set_cons_zero, List.set_cons_succ]
              refine wpAnyH_ready (rs := [5]) (by kernel_rfl) (by simp) ?_
              refine AllReadyH.cons rfl (fun K hK => ?_) AllReadyH.nil
              go_simp
              go_wp2_with (fail)
              refine hK.out _ _ trivial (fun hHeld => ?_)
              clear hK K
              refine wpAnyH_ready (rs := [6]) (by kernel_rfl) (by simp) ?_
              refine AllReadyH.cons rfl (fun K hK => ?_) AllReadyH.nil
              refine step_appU rfl (.tmp 43) (.tmp 47) rfl B4 A2 n2 c2 acc (by rfl) al5 (w5.heap.size + 1) (some ⟨w5.heap.size, 0, none⟩) 1 1 [(V : Int)] (by rfl) (NS.one w5 hvw rfl) (by have := HA.out; simp; omega) HSZ5.out ?_; intro A6 n6 c6 w6 o6 b6 g6 hat; have hQ6 := hQ5a.grown g6 (by intro e; first | exact own_blk_ne al5.2.1 hQ5a (by decide) e | exact own_blk_ne al5.2.1 hQ5a (by decide) e.symm); have f1 := hQ6.frozen 1; have q16 := hQ6.cell 1
              refine hK.out _ _ ?_ (fun hHeld => ?_)
              · try dsimp only
                first | done | trivial
              clear hK K
              refine wpAnyH_take (i := 7) (v := ?b10v7) rfl (by kernel_rfl) (by kernel_rfl) (by kernel_rfl) (by intro _ _ _ h; exact h) (Or.inl ⟨by rfl, ?b10hy7⟩) (by assumption) ?b10rest7
              case b10hy7 => (intro w hSw; (try dsimp only at hSw); go_simp; try with_reducible rfl)
              try simp only [Act.put, List.getElem_toArray, List.getElem_cons_succ, List.getElem_cons_zero, List.setIfInBounds_toArray, List.set_cons_zero, List.set_cons_succ]
              refine wpAnyH_ready (rs := [8]) (by kernel_rfl) (by simp) ?_
              refine AllReadyH.cons rfl (fun K hK => ?_) AllReadyH.nil
              go_simp
              go_wp2_with (fail)
              refine hK.out _ _ ?_ (fun hHeld => ?_)
              · try dsimp only
                first | done | trivial
              clear hK K
              refine wpAnyH_done (by kernel_rfl) ?_ _
              refine HKK.out _ _ ?_
              have r6 := r5a.grown g6 (fun k hk => by
                have h1 := (al5.2.1.lt k hk).1
                exact ⟨by omega, by omega⟩)
              have hQ7 := hQ6.set_ 1 (.slice A6 n6 c6)
              simp only [List.setIfInBounds_toArray, List.set_cons_succ, List.set_cons_zero] at hQ7
              have gq := only_setCell (World.grownBy.refl w6 (some q)) (p := ⟨q, 1, none⟩) (.inl rfl) (.slice A6 n6 c6)
              have o7 := o6.at_g hQ6 (by decide) gq
              have r7 := r6.setCell (p := ⟨q, 1, none⟩) (by show Bd ≤ q; omega) (by show q ≠ g; omega) (.slice A6 n6 c6)
              have b57 : Below wo.heap.size w5 (w6.setCell ⟨q, 1, none⟩ (.slice A6 n6 c6)) := (((Below.refl wo.heap.size w5).alloc (by omega) (.cells #[.int .u32 (V : Int)] 33)).trans (b6.mono (by omega))).setCell (p := ⟨q, 1, none⟩) (by show wo.heap.size ≤ q; omega) (.slice A6 n6 c6)
              have g07 := grown_below g05 b57
              have z7 : B4 ≤ (w6.setCell ⟨q, 1, none⟩ (.slice A6 n6 c6)).heap.size := by have h1 := b6.size; have h2 := HSZ5.out; simp [World.setCell] at h1 h2 ⊢; omega
              clear q16 f1 q15 q15a q1d
              go_wp2_with fail
              go_roundw
              case rel => exact ⟨m - 1, acc ++ [(V : Int)], A6, n6, c6, t4, s4, rfl, by omega, r7, hQ7, o7, g07, z7, HIN⟩
              case measure => have := HMP.out; simp [intOf]; omega
            · skip
              go_simp
              go_wp2_with ((go_at_call 83; refine (HB3.out _ rid).mono ?_; rintro _ w5 ⟨rfl, r5, g5⟩; have z5 := g5.size; have hQ5 := hQd.grown g5 (by intro e; injection e with e; omega); have q15 := hQ5.cell 1; obtain ⟨cs1, hrb1⟩ := rid.blk; have o5 := oid.at_g hrb1 (by decide) g5; have al5 := o5.alloc (.cells #[.int .u32 (V : Int)] 33); have hQ5a := hQ5.alloc (.cells #[.int .u32 (V : Int)] 33); have q15a := hQ5a.cell 1; have r5a := r5.below ((Below.refl w5.heap.size w5).alloc (Nat.le_refl _) (.cells #[.int .u32 (V : Int)] 33)) (by omega) r5.lt; have g05 := grown_tr gid g5; have HSZ5 := Lib.hid (show B4 ≤ (w5.alloc (.cells #[.int .u32 (V : Int)] 33)).heap.size by simp; omega)))
              refine hK.out _ _ trivial (fun hHeld => ?_)
              clear hK K
              refine wpAnyH_take (i := 4) (v := ?c10v4) rfl (by kernel_rfl) (by kernel_rfl) (by kernel_rfl) (by intro _ _ _ h; exact h) (Or.inl ⟨by rfl, ?c10hy4⟩) (by assumption) ?c10rest4
              case c10hy4 => (intro w hSw; (try dsimp only at hSw); go_simp; try with_reducible rfl)
              try simp only [Act.put, List.getElem_toArray, List.getElem_cons_succ, List.getElem_cons_zero, List.setIfInBounds_toArray, List.set_cons_zero, List.set_cons_succ]
              refine wpAnyH_ready (rs := [1, 5]) (by kernel_rfl) (by simp) ?_
              refine AllReadyH.cons rfl (fun K hK => ?_) (AllReadyH.cons rfl (fun K hK => ?_) AllReadyH.nil)
              · skip
                go_simp
                go_wp2_with (fail)
                refine hK.out _ _ trivial (fun hHeld => ?_)
                clear hK K
                refine wpAnyH_ready (rs := [5]) (by kernel_rfl) (by simp) ?_
                refine AllReadyH.cons rfl (fun K hK => ?_) AllReadyH.nil
                go_simp
                go_wp2_with (fail)
                refine hK.out _ _ trivial (fun hHeld => ?_)
                clear hK K
                refine wpAnyH_ready (rs := [6]) (by kernel_rfl) (by simp) ?_
                refine AllReadyH.cons rfl (fun K hK => ?_) AllReadyH.nil
                refine step_appU rfl (.tmp 43) (.tmp 47) rfl B4 A2 n2 c2 acc (by rfl) al5 (w5.heap.size + 1) (some ⟨w5.heap.size, 0, none⟩) 1 1 [(V : Int)] (by rfl) (NS.one w5 hvw rfl) (by have := HA.out; simp; omega) HSZ5.out ?_; intro A6 n6 c6 w6 o6 b6 g6 hat; have hQ6 := hQ5a.grown g6 (by intro e; first | exact own_blk_ne al5.2.1 hQ5a (by decide) e | exact own_blk_ne al5.2.1 hQ5a (by decide) e.symm); have f1 := hQ6.frozen 1; have q16 := hQ6.cell 1
                refine hK.out _ _ ?_ (fun hHeld => ?_)
                · try dsimp only
                  first | done | trivial
                clear hK K
                refine wpAnyH_take (i := 7) (v := ?d10v7) rfl (by kernel_rfl) (by kernel_rfl) (by kernel_rfl) (by intro _ _ _ h; exact h) (Or.inl ⟨by rfl, ?d10hy7⟩) (by assumption) ?d10rest7
                case d10hy7 => (intro w hSw; (try dsimp only at hSw); go_simp; try with_reducible rfl)
                try simp only [Act.put, List.getElem_toArray, List.getElem_cons_succ, List.getElem_cons_zero, List.setIfInBounds_toArray, List.set_cons_zero, List.set_cons_succ]
                refine wpAnyH_ready (rs := [8]) (by kernel_rfl) (by simp) ?_
                refine AllReadyH.cons rfl (fun K hK => ?_) AllReadyH.nil
                go_simp
                go_wp2_with (fail)
                refine hK.out _ _ ?_ (fun hHeld => ?_)
                · try dsimp only
                  first | done | trivial
                clear hK K
                refine wpAnyH_done (by kernel_rfl) ?_ _
                refine HKK.out _ _ ?_
                have r6 := r5a.grown g6 (fun k hk => by
                  have h1 := (al5.2.1.lt k hk).1
                  exact ⟨by omega, by omega⟩)
                have hQ7 := hQ6.set_ 1 (.slice A6 n6 c6)
                simp only [List.setIfInBounds_toArray, List.set_cons_succ, List.set_cons_zero] at hQ7
                have gq := only_setCell (World.grownBy.refl w6 (some q)) (p := ⟨q, 1, none⟩) (.inl rfl) (.slice A6 n6 c6)
                have o7 := o6.at_g hQ6 (by decide) gq
                have r7 := r6.setCell (p := ⟨q, 1, none⟩) (by show Bd ≤ q; omega) (by show q ≠ g; omega) (.slice A6 n6 c6)
                have b57 : Below wo.heap.size w5 (w6.setCell ⟨q, 1, none⟩ (.slice A6 n6 c6)) := (((Below.refl wo.heap.size w5).alloc (by omega) (.cells #[.int .u32 (V : Int)] 33)).trans (b6.mono (by omega))).setCell (p := ⟨q, 1, none⟩) (by show wo.heap.size ≤ q; omega) (.slice A6 n6 c6)
                have g07 := grown_below g05 b57
                have z7 : B4 ≤ (w6.setCell ⟨q, 1, none⟩ (.slice A6 n6 c6)).heap.size := by have h1 := b6.size; have h2 := HSZ5.out; simp [World.setCell] at h1 h2 ⊢; omega
                clear q16 f1 q15 q15a q1d
                go_wp2_with fail
                go_roundw
                case rel => exact ⟨m - 1, acc ++ [(V : Int)], A6, n6, c6, t4, s4, rfl, by omega, r7, hQ7, o7, g07, z7, HIN⟩
                case measure => have := HMP.out; simp [intOf]; omega
              · skip
                go_simp
                go_wp2_with (fail)
                refine hK.out _ _ trivial (fun hHeld => ?_)
                clear hK K
                refine wpAnyH_ready (rs := [1]) (by kernel_rfl) (by simp) ?_
                refine AllReadyH.cons rfl (fun K hK => ?_) AllReadyH.nil
                go_simp
                go_wp2_with (fail)
                refine hK.out _ _ trivial (fun hHeld => ?_)
                clear hK K
                refine wpAnyH_ready (rs := [6]) (by kernel_rfl) (by simp) ?_
                refine AllReadyH.cons rfl (fun K hK => ?_) AllReadyH.nil
                refine step_appU rfl (.tmp 43) (.tmp 47) rfl B4 A2 n2 c2 acc (by rfl) al5 (w5.heap.size + 1) (some ⟨w5.heap.size, 0, none⟩) 1 1 [(V : Int)] (by rfl) (NS.one w5 hvw rfl) (by have := HA.out; simp; omega) HSZ5.out ?_; intro A6 n6 c6 w6 o6 b6 g6 hat; have hQ6 := hQ5a.grown g6 (by intro e; first | exact own_blk_ne al5.2.1 hQ5a (by decide) e | exact own_blk_ne al5.2.1 hQ5a (by decide) e.symm); have f1 := hQ6.frozen 1; have q16 := hQ6.cell 1
                refine hK.out _ _ ?_ (fun hHeld => ?_)
                · try dsimp only
                  first | done | trivial
                clear hK K
                refine wpAnyH_take (i := 7) (v := ?e10v7) rfl (by kernel_rfl) (by kernel_rfl) (by kernel_rfl) (by intro _ _ _ h; exact h) (Or.inl ⟨by rfl, ?e10hy7⟩) (by assumption) ?e10rest7
                case e10hy7 => (intro w hSw; (try dsimp only at hSw); go_simp; try with_reducible rfl)
                try simp only [Act.put, List.getElem_toArray, List.getElem_cons_succ, List.getElem_cons_zero, List.setIfInBounds_toArray, List.set_cons_zero, List.set_cons_succ]
                refine wpAnyH_ready (rs := [8]) (by kernel_rfl) (by simp) ?_
                refine AllReadyH.cons rfl (fun K hK => ?_) AllReadyH.nil
                go_simp
                go_wp2_with (fail)
                refine hK.out _ _ ?_ (fun hHeld => ?_)
                · try dsimp only
                  first | done | trivial
                clear hK K
                refine wpAnyH_done (by kernel_rfl) ?_ _
                refine HKK.out _ _ ?_
                have r6 := r5a.grown g6 (fun k hk => by
                  have h1 := (al5.2.1.lt k hk).1
                  exact ⟨by omega, by omega⟩)
                have hQ7 := hQ6.set_ 1 (.slice A6 n6 c6)
                simp only [List.setIfInBounds_toArray, List.set_cons_succ, List.set_cons_zero] at hQ7
                have gq := only_setCell (World.grownBy.refl w6 (some q)) (p := ⟨q, 1, none⟩) (.inl rfl) (.slice A6 n6 c6)
                have o7 := o6.at_g hQ6 (by decide) gq
                have r7 := r6.setCell (p := ⟨q, 1, none⟩) (by show Bd ≤ q; omega) (by show q ≠ g; omega) (.slice A6 n6 c6)
                have b57 : Below wo.heap.size w5 (w6.setCell ⟨q, 1, none⟩ (.slice A6 n6 c6)) := (((Below.refl wo.heap.size w5).alloc (by omega) (.cells #[.int .u32 (V : Int)] 33)).trans (b6.mono (by omega))).setCell (p := ⟨q, 1, none⟩) (by show wo.heap.size ≤ q; omega) (.slice A6 n6 c6)
                have g07 := grown_below g05 b57
                have z7 : B4 ≤ (w6.setCell ⟨q, 1, none⟩ (.slice A6 n6 c6)).heap.size := by have h1 := b6.size; have h2 := HSZ5.out; simp [World.setCell] at h1 h2 ⊢; omega
                clear q16 f1 q15 q15a q1d
                go_wp2_with fail
                go_roundw
                case rel => exact ⟨m - 1, acc ++ [(V : Int)], A6, n6, c6, t4, s4, rfl, by omega, r7, hQ7, o7, g07, z7, HIN⟩
                case measure => have := HMP.out; simp [intOf]; omega
end Go.Proofs.YtlpkngjeihoknaaDoor
