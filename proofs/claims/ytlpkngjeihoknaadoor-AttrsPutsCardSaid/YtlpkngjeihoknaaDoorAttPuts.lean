/- Joined texts: Walks of layer 4 (attributes): bytes with an attribute behind them, by the document; Walks of layer 4 (attributes): their bytes, by the document; The statement AttrsPuts: its walk. Conditions: those of the theorems. -/
import Derived.Test.YtlpkngjeihoknaaDoorProg
import Derived.WalkKit
import Derived.WalkSpells
import Derived.WalkLawsBesides
import Derived.Outline
import Derived.Deep.QuietTactic
import Derived.BigQuiet
import Derived.Handy
import Derived.Lib.Hide
import Derived.Deep.DeepCutAuto
import Derived.Deep.CutBlock
import Derived.Test.YtlpkngjeihoknaaDoorRef01
import Derived.Test.YtlpkngjeihoknaaDoorAttGH
import Derived.Laws.Cover4
import Derived.OrdersHeld
import Derived.Deep.RegionHeld
import Derived.Test.YtlpkngjeihoknaaDoorAttSW
namespace Go.Proofs.YtlpkngjeihoknaaDoor
open Go.RowKit
set_option linter.unusedSimpArgs false
set_option linter.unusedVariables false
theorem attPut (wide : Bool) (o : Int) (A : Option Addr) (n c : Nat) (path : List Seg) (nx md pf : Int) (at_ ha : Bool) (gs ga : Int) (A1 : Option Addr) (n1 c1 : Nat) (comms : List Int) (A2 : Option Addr) (n2 c2 : Nat) (raws : List RawV) (w : World) (hp : DL rSeg 2 w (Lo w) A n path) (hc : NF w (Lo w) A1 n1 comms) (hd : DL rRaw 3 w (Lo w) A2 n2 raws) (hn : n ≤ 12) (hs : Hid (sumN path ≤ big32)) (hn2 : n2 ≤ 100000) (ht : LookTab w) (hgo : 0 < w.heap.size) (hw : Hid (0 ≤ nx ∧ nx < 4294967296 ∧ 0 ≤ gs ∧ gs < 4294967296 ∧ 0 ≤ ga ∧ ga < 4294967296)) :
    Calls Tryd.prog 58 #[.agg #[.int .i64 o, .slice A n c, .int .u32 nx, .int .i64 md, .int .i64 pf, .bool at_, .bool ha, .int .u32 gs, .int .u32 ga, .slice A1 n1 c1, .slice A2 n2 c2], .bool wide] w (RetPE w (putAt wide (⟨o, path, nx, md, pf, at_, ha, gs, ga, comms, raws⟩ : At))) := by
  cases wide
  · exact attPut_narrow o A n c path nx md pf at_ ha gs ga A1 n1 c1 comms A2 n2 c2 raws w hp hc hd hn hs hn2 ht hgo hw
  · exact attPut_wide o A n c path nx md pf at_ ha gs ga A1 n1 c1 comms A2 n2 c2 raws w hp hc hd hn hs hn2 ht hgo hw
set_option maxHeartbeats 8000000 in
set_option maxRecDepth 100000 in
theorem refAttr04 (A : Option Addr) (n c : Nat) (b : List UInt8) (fl kind : Int) (A' : Option Addr) (n' c' : Nat) (v : List UInt8) (w : World) (h : BS w w.heap.size A n b) (h' : BS w w.heap.size A' n' v) (hf0 : 0 ≤ fl) (hf1 : fl ≤ 224) (hk0 : 0 ≤ kind) (hk1 : kind ≤ 255) (hb : b.length ≤ 10000000) (hv : v.length ≤ 60000) :
    Calls Tryd.prog 98 #[.slice A n c, .int .i64 fl, .int .i64 kind, .slice A' n' c'] w (RetB w 5 (b ++ attrB fl kind v)) := by
  have HN := Lib.hid h'.1
  have wk : IntKind.u8.wrap kind = kind := by rw [IntKind.wrap_u8]; omega
  have wf : IntKind.u8.wrap fl = fl := by rw [IntKind.wrap_u8]; omega
  have hn' : n' ≤ 60000 := by have := HN.out; omega
  have HBL := Lib.hid hb
  have HVL := Lib.hid hv
  have HF := Lib.hid (And.intro hf0 hf1)
  have HK := Lib.hid (And.intro hk0 hk1)
  have w16 : IntKind.i64.wrap (fl + 16) = fl + 16 := IntWalk.i64_in _ ⟨by omega, by omega⟩
  have w168 : IntKind.u8.wrap (fl + 16) = fl + 16 := by rw [IntKind.wrap_u8]; omega
  clear hb hv hf0 hf1 hk0 hk1
  go_enter Tryd.func98, Tryd.ntmps98
  go_upto_region 3 with (at_builtin; refine wpl_app rfl (.tmp 10) (.tmp 11) _ rfl 5 Tryd.underlying40 u8info w.heap.size none 0 0 [] (by rfl) OB.nil_ w.heap.size A n c b (by rfl) h (by have := HBL.out; simp; omega) (Nat.le_refl _) ?_; intro A1 n1 c1 w1 o1 b1 g1)
  rw [List.nil_append] at o1
  have HZ1 := Lib.hid b1.size
  by_cases hbig : 255 < n'
  · have e1 : decide ((255 : Int) < (n' : Int)) = true := decide_eq_true (by omega)
    have e1' : decide (255 < n') = true := decide_eq_true hbig
    have HE := Lib.hid (show attrB fl kind v = [ub (fl + 16), ub kind] ++ b16 (n' : Int) ++ v by unfold attrB; rw [if_pos (by have := HN.out; omega), ← HN.out])
    clear hbig
    have bv2 := BS.one w1 5 (fl + 16) (by have := HF.out; have := HK.out; omega) (by have := HF.out; have := HK.out; omega)
    have ba2 := b1.alloc HZ1.out (.cells #[.int .u8 (fl + 16)] 5)
    go_upto_region 5 with (at_builtin; refine wpl_app rfl (.tmp 16) (.tmp 20) _ rfl 5 Tryd.underlying40 u8info w.heap.size A1 n1 c1 _ (by rfl) (o1.alloc _) (w1.heap.size + 1) (some ⟨w1.heap.size, 0, none⟩) 1 1 [ub (fl + 16)] (by rfl) bv2 (by have := HBL.out; simp; omega) (by have := HZ1.out; simp; omega) ?_; intro A2 n2 c2 w2 o2 b2x g2)
    have b2 := ba2.trans b2x
    have HZ2 := Lib.hid b2.size
    clear bv2 ba2 b2x
    have bv3 := BS.one w2 5 (kind) (by have := HF.out; have := HK.out; omega) (by have := HF.out; have := HK.out; omega)
    have ba3 := b2.alloc HZ2.out (.cells #[.int .u8 (kind)] 5)
    go_upto_region 6 with (at_builtin; refine wpl_app rfl (.tmp 22) (.tmp 25) _ rfl 5 Tryd.underlying40 u8info w.heap.size A2 n2 c2 _ (by rfl) (o2.alloc _) (w2.heap.size + 1) (some ⟨w2.heap.size, 0, none⟩) 1 1 [ub (kind)] (by rfl) bv3 (by have := HBL.out; simp; omega) (by have := HZ2.out; simp; omega) ?_; intro A3 n3 c3 w3 o3 b3x g3)
    have b3 := ba3.trans b3x
    have HZ3 := Lib.hid b3.size
    clear bv3 ba3 b3x
    have HC := Lib.hid (ref01Put16 A3 n3 c3 _ (n' : Int) w3 o3.bs (by have := HBL.out; simp; omega))
    go_wp2_with fail
    refine HC.out.mono ?_
    rintro _ w4 ⟨A4, n4, c4, rfl, o4, b4x⟩
    have b4 := btr b3 b4x b3.size
    have h4 := h'.below b4
    have o4 := o4.low HZ3.out
    have HZ4 := Lib.hid b4.size
    go_wp2_with (at_builtin; refine wpl_app rfl (.tmp 47) (.tmp 48) _ rfl 5 Tryd.underlying40 u8info w.heap.size A4 n4 c4 _ (by rfl) o4 w.heap.size A' n' c' v (by rfl) h4 (by have := HBL.out; have := HVL.out; simp [b16]; omega) HZ4.out ?_; intro A5 n5 c5 w5 o5 b5 g5)
    go_ret
    exact ⟨A5, n5, c5, rfl, by rw [HE.out]; simpa using o5, b4.trans b5⟩
  · have e1 : decide ((255 : Int) < (n' : Int)) = false := decide_eq_false (by omega)
    have e1' : decide (255 < n') = false := decide_eq_false hbig
    have HE := Lib.hid (show attrB fl kind v = [ub fl, ub kind, ub (n' : Int)] ++ v by unfold attrB; rw [if_neg (by have := HN.out; omega), ← HN.out])
    have wn : IntKind.u8.wrap (n' : Int) = (n' : Int) := by rw [IntKind.wrap_u8]; omega
    have hn255 : (n' : Int) ≤ 255 := by omega
    have hn0 : (0 : Int) ≤ (n' : Int) := by omega
    clear hbig
    have bv2 := BS.one w1 5 (fl) (by have := HF.out; have := HK.out; omega) (by have := HF.out; have := HK.out; omega)
    have ba2 := b1.alloc HZ1.out (.cells #[.int .u8 (fl)] 5)
    go_upto_region 8 with (at_builtin; refine wpl_app rfl (.tmp 31) (.tmp 34) _ rfl 5 Tryd.underlying40 u8info w.heap.size A1 n1 c1 _ (by rfl) (o1.alloc _) (w1.heap.size + 1) (some ⟨w1.heap.size, 0, none⟩) 1 1 [ub (fl)] (by rfl) bv2 (by have := HBL.out; simp; omega) (by have := HZ1.out; simp; omega) ?_; intro A2 n2 c2 w2 o2 b2x g2)
    have b2 := ba2.trans b2x
    have HZ2 := Lib.hid b2.size
    clear bv2 ba2 b2x
    have bv3 := BS.one w2 5 (kind) (by have := HF.out; have := HK.out; omega) (by have := HF.out; have := HK.out; omega)
    have ba3 := b2.alloc HZ2.out (.cells #[.int .u8 (kind)] 5)
    go_upto_region 9 with (at_builtin; refine wpl_app rfl (.tmp 36) (.tmp 39) _ rfl 5 Tryd.underlying40 u8info w.heap.size A2 n2 c2 _ (by rfl) (o2.alloc _) (w2.heap.size + 1) (some ⟨w2.heap.size, 0, none⟩) 1 1 [ub (kind)] (by rfl) bv3 (by have := HBL.out; simp; omega) (by have := HZ2.out; simp; omega) ?_; intro A3 n3 c3 w3 o3 b3x g3)
    have b3 := ba3.trans b3x
    have HZ3 := Lib.hid b3.size
    clear bv3 ba3 b3x
    have bv4 := BS.one w3 5 ((n' : Int)) (by have := HF.out; have := HK.out; omega) (by have := HF.out; have := HK.out; omega)
    have ba4 := b3.alloc HZ3.out (.cells #[.int .u8 ((n' : Int))] 5)
    go_upto_region 10 with (at_builtin; refine wpl_app rfl (.tmp 41) (.tmp 45) _ rfl 5 Tryd.underlying40 u8info w.heap.size A3 n3 c3 _ (by rfl) (o3.alloc _) (w3.heap.size + 1) (some ⟨w3.heap.size, 0, none⟩) 1 1 [ub ((n' : Int))] (by rfl) bv4 (by have := HBL.out; simp; omega) (by have := HZ3.out; simp; omega) ?_; intro A4 n4 c4 w4 o4 b4x g4)
    have b4 := ba4.trans b4x
    have HZ4 := Lib.hid b4.size
    clear bv4 ba4 b4x
    have h4 := h'.below b4
    go_wp2_with (at_builtin; refine wpl_app rfl (.tmp 47) (.tmp 48) _ rfl 5 Tryd.underlying40 u8info w.heap.size A4 n4 c4 _ (by rfl) o4 w.heap.size A' n' c' v (by rfl) h4 (by have := HBL.out; have := HVL.out; simp; omega) HZ4.out ?_; intro A5 n5 c5 w5 o5 b5 g5)
    go_ret
    exact ⟨A5, n5, c5, rfl, by rw [HE.out]; simpa using o5, b4.trans b5⟩
end Go.Proofs.YtlpkngjeihoknaaDoor
namespace Go.Proofs.YtlpkngjeihoknaaDoor
open Go.RowKit
set_option linter.unusedSimpArgs false
set_option linter.unusedVariables false
theorem only_no (acc l : List UInt8) : acc ++ onlyIf false l = acc := List.append_nil _
theorem only_len {acc : List UInt8} {is : Bool} {fl kind : Int} {v : List UInt8} {K : Nat} (h : acc.length ≤ K) (hv : v.length ≤ 2000) : (acc ++ onlyIf is (attrB fl kind v)).length ≤ K + 3000 := put_len h hv
set_option maxHeartbeats 16000000 in
set_option maxRecDepth 100000 in
theorem refPut04_narrow (o : Int) (A : Option Addr) (n c : Nat) (path : List Seg) (nx md pf : Int) (at_ ha : Bool) (gs ga : Int) (A1 : Option Addr) (n1 c1 : Nat) (comms : List Int) (A2 : Option Addr) (n2 c2 : Nat) (raws : List RawV) (w : World) (hp : DL rSeg 2 w (Lo w) A n path) (hc : NF w (Lo w) A1 n1 comms) (hd : DL rRaw 3 w (Lo w) A2 n2 raws) (hn : n ≤ 12) (hs : Hid (sumN path ≤ big32)) (hn2 : n2 ≤ 100000) (hw : Hid (0 ≤ nx ∧ nx < 4294967296 ∧ 0 ≤ gs ∧ gs < 4294967296 ∧ 0 ≤ ga ∧ ga < 4294967296)) :
    Calls Tryd.prog 59 #[.agg #[.int .i64 o, .slice A n c, .int .u32 nx, .int .i64 md, .int .i64 pf, .bool at_, .bool ha, .int .u32 gs, .int .u32 ga, .slice A1 n1 c1, .slice A2 n2 c2], .bool false] w (RetPE w (putAt false (⟨o, path, nx, md, pf, at_, ha, gs, ga, comms, raws⟩ : At))) := by
  have HN := Lib.hid hd.len
  have HC := Lib.hid hc.1
  obtain ⟨rt, hrt⟩ : ∃ rt, rightAt (⟨o, path, nx, md, pf, at_, ha, gs, ga, comms, raws⟩ : At) = rt := ⟨_, rfl⟩
  have HR := Lib.hid (show ∀ w', DL rSeg 2 w' (Lo w') A n path → DL rRaw 3 w' (Lo w') A2 n2 raws → Calls Tryd.prog 49 #[.agg #[.int .i64 o, .slice A n c, .int .u32 nx, .int .i64 md, .int .i64 pf, .bool at_, .bool ha, .int .u32 gs, .int .u32 ga, .slice A1 n1 c1, .slice A2 n2 c2]] w' fun en w'' => en = .returned (.bool rt) ∧ Below w'.heap.size w' w'' from fun w' h1 h2 => by rw [← hrt]; exact refRight04 o A n c path nx md pf at_ ha gs ga A1 n1 c1 comms A2 n2 c2 raws w' h1 hc.1 h2 (by omega) hn2)
  have HRT := Lib.hid hrt
  obtain ⟨W, hW, hX, bW⟩ := box1c w #[.int .i64 o, .slice A n c, .int .u32 nx, .int .i64 md, .int .i64 pf, .bool at_, .bool ha, .int .u32 gs, .int .u32 ga, .slice A1 n1 c1, .slice A2 n2 c2] 54
  have hpW := hp.keep rSeg_ok (Kp.call bW)
  have hdW := hd.keep rRaw_ok (Kp.call bW)
  have hcW := hc.keep (Kp.call bW)
  have hXl := hX.lt
  have hqW := bW.size
  obtain ⟨q, hq⟩ : ∃ q, w.heap.size = q := ⟨_, rfl⟩
  have HQ := Lib.hid hq
  go_enter Tryd.func59, Tryd.ntmps59
  go_upto_region 1 with fail
  try rw [hW]
  rw [hq] at hX hXl hqW
  try rw [hq]
  have hBW := Lib.hid bW
  clear hW hq hrt bW
  have y0 : W.cell? ⟨q, 0, none⟩ = some (.int .i64 o) := hX.cell 0
  have y1 : W.cell? ⟨q, 1, none⟩ = some (.slice A n c) := hX.cell 1
  have y2 : W.cell? ⟨q, 2, none⟩ = some (.int .u32 nx) := hX.cell 2
  have y3 : W.cell? ⟨q, 3, none⟩ = some (.int .i64 md) := hX.cell 3
  have y4 : W.cell? ⟨q, 4, none⟩ = some (.int .i64 pf) := hX.cell 4
  have y5 : W.cell? ⟨q, 5, none⟩ = some (.bool at_) := hX.cell 5
  have y6 : W.cell? ⟨q, 6, none⟩ = some (.bool ha) := hX.cell 6
  have y7 : W.cell? ⟨q, 7, none⟩ = some (.int .u32 gs) := hX.cell 7
  have y8 : W.cell? ⟨q, 8, none⟩ = some (.int .u32 ga) := hX.cell 8
  have y9 : W.cell? ⟨q, 9, none⟩ = some (.slice A1 n1 c1) := hX.cell 9
  have y10 : W.cell? ⟨q, 10, none⟩ = some (.slice A2 n2 c2) := hX.cell 10
  go_wp2_with fail
  refine (HR.out _ hpW hdW).mono ?_
  rintro _ w1 ⟨rfl, bk1⟩
  clear y0 y1 y2 y3 y4 y5 y6 y7 y8 y9 y10
  cases rt
  · have HP := Lib.hid (show putAt false (⟨o, path, nx, md, pf, at_, ha, gs, ga, comms, raws⟩ : At) = ([], 1) by unfold putAt; rw [HRT.out]; rfl)
    go_wp2_with fail
    go_ret2
    exact ⟨none, 0, 0, by rw [HP.out]; rfl, by rw [HP.out]; exact OB.nil_, btr hBW.out bk1 hBW.out.size⟩
  have HRG := Lib.hid (rightAt_of HRT.out)
  have HP := Lib.hid (show putAt false (⟨o, path, nx, md, pf, at_, ha, gs, ga, comms, raws⟩ : At) = (attsB false (⟨o, path, nx, md, pf, at_, ha, gs, ga, comms, raws⟩ : At), 0) by unfold putAt; rw [HRT.out]; rfl)
  have HPL := Lib.hid (show (putA false path).length ≤ 2000 ∧ (putA true path).length ≤ 2000 by
    have h1 := rightA_of HRG.out.2.1
    have h2 := putA_len false path
    have h3 := putA_len true path
    simp only at h1
    omega)
  have HNB := Lib.hid (show (-1 ≤ md ∧ md ≤ 4294967295) ∧ (-1 ≤ pf ∧ pf ≤ 4294967295) from ⟨of_decide_eq_true HRG.out.2.2.1, of_decide_eq_true HRG.out.2.2.2.1⟩)
  have HPT := Lib.hid (show ∀ (bb : Bool) w', DL rSeg 2 w' (Lo w') A n path → Calls Tryd.prog 40 #[.slice A n c, .bool bb] w' (RetB w' 5 (putA bb path)) from fun bb w' h => refPut03 A n c path bb w' h hn hs)
  have HPK := Lib.hid (show ∀ w', Below W.heap.size W w' → DL rSeg 2 w' (Lo w') A n path from fun w' h => hpW.keep rSeg_ok (Kp.call h))
  have HDK := Lib.hid (show ∀ w', Below W.heap.size W w' → DL rRaw 3 w' (Lo w') A2 n2 raws from fun w' h => hdW.keep rRaw_ok (Kp.call h))
  have HCK := Lib.hid (show ∀ w', Below W.heap.size W w' → NF w' (Lo w') A1 n1 comms from fun w' h => hcW.keep (Kp.call h))
  have HP32 := Lib.hid (show ∀ (y : Int) (w' : World), 0 ≤ y → y < 4294967296 → Calls Tryd.prog 76 #[.slice none 0 0, .int .u32 y] w' (RetB w' 5 (b32 y)) from fun y w' h0 h1 => by have := ref01Put32 none 0 0 [] y w' ⟨rfl, Reads.none_⟩ (by simp) h0 h1; rwa [List.nil_append] at this)
  have ho0 : 0 ≤ o ∧ o ≤ 2 := HRG.out.1
  obtain ⟨ho0, ho2⟩ := ho0
  have wo : IntKind.u8.wrap o = o := by rw [IntKind.wrap_u8]; omega
  obtain ⟨hw0, hw1, hw2, hw3, hw4, hw5⟩ := hw.out
  have HWN := Lib.hid (And.intro hw0 hw1)
  have HWG := Lib.hid (And.intro hw2 hw3)
  have HWA := Lib.hid (And.intro hw4 hw5)
  clear hw0 hw1 hw2 hw3 hw4 hw5 hpW hdW hcW
  have X_1 := hX.below bk1 hXl
  have x0 : w1.cell? ⟨q, 0, none⟩ = some (.int .i64 o) := X_1.cell 0
  obtain ⟨w2, hw2, hB2, b2⟩ := box1c w1 #[.int .u8 o] 5
  have bs2 : BS w2 w2.heap.size (some ⟨w1.heap.size, 0, none⟩) 1 [ub o] := by rw [← hw2]; exact (BS.one w1 5 o ho0 (by omega)).more (by simp)
  have bk2 := btr bk1 b2 bk1.size
  go_wp2_with fail
  try rw [hw2]
  refine (refAttr04 none 0 0 [] 64 1 (some ⟨w1.heap.size, 0, none⟩) 1 1 [ub o] w2 ⟨rfl, Reads.none_⟩ bs2 (by omega) (by omega) (by omega) (by omega) (by simp) (by simp)).mono ?_
  rintro _ w3 ⟨A3, n3, c3, rfl, o3, b3⟩
  have bk3 := btr bk2 b3 bk2.size
  have o3 := o3.low (Nat.le_trans hqW bk2.size)
  rw [List.nil_append] at o3
  clear x0 hw2 hB2 bs2 b2 b3
  obtain ⟨a3, ha3⟩ : ∃ a, attrB 64 1 [ub o] = a := ⟨_, rfl⟩
  have Kl3 : a3.length ≤ 3000 := by rw [← ha3]; exact by have := attrB_len 64 1 [ub o]; simp at this; omega
  have E3 := Lib.hid ha3
  rw [ha3] at o3
  clear ha3
  have X_3 := hX.below bk3 hXl
  have x1 : w3.cell? ⟨q, 1, none⟩ = some (.slice A n c) := X_3.cell 1
  go_wp2_with fail
  refine (HPT.out false _ (HPK.out _ bk3)).mono ?_
  rintro _ w4 ⟨A40, n40, c40, rfl, o40, b4⟩
  have bk4 := btr bk3 b4 bk3.size
  obtain ⟨A4, n4, c4, hA4⟩ : ∃ A n c, A = A3 ∧ n = n3 ∧ c = c3 := ⟨_, _, _, rfl, rfl, rfl⟩
  obtain ⟨rfl, rfl, rfl⟩ := hA4
  have o4 := o3.below b4
  go_wp2_with fail
  refine (refAttr04 A4 n4 c4 a3 64 2 A40 n40 c40 (putA false path) w4 o4.bs (o40.bs) (by omega) (by omega) (by omega) (by omega) (by have := Kl3; omega) (by have := (HPL.out.1); omega)).mono ?_
  rintro _ w5 ⟨A5, n5, c5, rfl, o5, b5⟩
  have bk5 := btr bk4 b5 bk4.size
  have o5 := o5.low (Nat.le_trans hqW bk4.size)
  obtain ⟨a5, ha5⟩ : ∃ a, a3 ++ attrB 64 2 (putA false path) = a := ⟨_, rfl⟩
  have Kl5 : a5.length ≤ 6000 := by rw [← ha5]; exact by have h1 := attrB_len 64 2 (putA false path); have h2 := HPL.out.1; have h3 := Kl3; rw [List.length_append]; omega
  have E5 := Lib.hid ha5
  rw [ha5] at o5
  clear ha5 x1 o40 o4
  have X_5 := hX.below bk5 hXl
  have x2 : w5.cell? ⟨q, 2, none⟩ = some (.int .u32 nx) := X_5.cell 2
  go_wp2_with fail
  refine (HP32.out nx _ HWN.out.1 HWN.out.2).mono ?_
  rintro _ w6 ⟨A60, n60, c60, rfl, o60, b6⟩
  have bk6 := btr bk5 b6 bk5.size
  obtain ⟨A6, n6, c6, hA6⟩ : ∃ A n c, A = A5 ∧ n = n5 ∧ c = c5 := ⟨_, _, _, rfl, rfl, rfl⟩
  obtain ⟨rfl, rfl, rfl⟩ := hA6
  have o6 := o5.below b6
  go_wp2_with fail
  refine (refAttr04 A6 n6 c6 a5 64 3 A60 n60 c60 (b32 nx) w6 o6.bs (o60.bs) (by omega) (by omega) (by omega) (by omega) (by have := Kl5; omega) (by have := (show (b32 nx).length ≤ 2000 by rw [b32_len]; omega); omega)).mono ?_
  rintro _ w7 ⟨A7, n7, c7, rfl, o7, b7⟩
  have bk7 := btr bk6 b7 bk6.size
  have o7 := o7.low (Nat.le_trans hqW bk6.size)
  obtain ⟨a7, ha7⟩ : ∃ a, a5 ++ attrB 64 3 (b32 nx) = a := ⟨_, rfl⟩
  have Kl7 : a7.length ≤ 9000 := by rw [← ha7]; exact by have h1 := attrB_len 64 3 (b32 nx); have h2 := b32_len nx; have h3 := Kl5; rw [List.length_append]; omega
  have E7 := Lib.hid ha7
  rw [ha7] at o7
  clear ha7 x2 o60 o6
  have X_7 := hX.below bk7 hXl
  have x3 : w7.cell? ⟨q, 3, none⟩ = some (.int .i64 md) := X_7.cell 3
  obtain ⟨a9, ha9⟩ : ∃ a, a7 ++ onlyIf (decide (0 ≤ md)) (attrB 128 4 (b32 (md % 4294967296))) = a := ⟨_, rfl⟩
  have Kl9 : a9.length ≤ 12000 := by rw [← ha9]; exact only_len Kl7 (by rw [b32_len]; omega)
  have E9 := Lib.hid ha9
  go_upto_if 35 with fail
  go_cut [6] (fun s6 wx => ∃ (A : Option Addr) (n c : Nat), s6 = .slice A n c ∧ OB wx 5 q A n c a9 ∧ Below W.heap.size W wx)
  case first =>
    by_cases h0 : 0 ≤ md
    case neg =>
      have t0 : decide (0 ≤ md) = false := decide_eq_false h0
      go_wp2_with fail
      go_meet
      exact ⟨A7, n7, c7, rfl, by rw [← ha9, t0]; simpa [onlyIf] using o7, bk7⟩
    have t0 : decide (0 ≤ md) = true := decide_eq_true h0
    have hmb : md ≤ 4294967295 := HNB.out.1.2
    have hmw : IntKind.u32.wrap md = md := by rw [IntKind.wrap_u32]; omega
    have hmm : md % 4294967296 = md := by omega
    have HM := Lib.hid (And.intro h0 (show md < 4294967296 by omega))
    clear h0 hmb
    go_wp2_with fail
    refine (HP32.out md _ HM.out.1 HM.out.2).mono ?_
    rintro _ w70 ⟨A71, n71, c71, rfl, o71, b70⟩
    have bk70 := btr bk7 b70 bk7.size
    obtain ⟨A70, n70, c70, hA70⟩ : ∃ A n c, A = A7 ∧ n = n7 ∧ c = c7 := ⟨_, _, _, rfl, rfl, rfl⟩
    obtain ⟨rfl, rfl, rfl⟩ := hA70
    have o70 := o7.below b70
    go_wp2_with fail
    refine (refAttr04 A70 n70 c70 a7 128 4 A71 n71 c71 (b32 md) w70 o70.bs (o71.bs) (by omega) (by omega) (by omega) (by omega) (by have := Kl7; omega) (by have := (show (b32 md).length ≤ 2000 by rw [b32_len]; omega); omega)).mono ?_
    rintro _ w72 ⟨A72, n72, c72, rfl, o72, b72⟩
    have bk72 := btr bk70 b72 bk70.size
    have o72 := o72.low (Nat.le_trans hqW bk70.size)
    go_wp2_with fail
    go_meet
    exact ⟨A72, n72, c72, rfl, by rw [← ha9, t0, hmm]; exact o72, bk72⟩
  case rest =>
    obtain ⟨A9, n9, c9, rfl, o9, bk9⟩ := hcut
    obtain ⟨w9, hw9⟩ : ∃ x, x = wc := ⟨_, rfl⟩
    subst hw9
    clear ha9
    have X_9 := hX.below bk9 hXl
    have x4 : w9.cell? ⟨q, 4, none⟩ = some (.int .i64 pf) := X_9.cell 4
    obtain ⟨a11, ha11⟩ : ∃ a, a9 ++ onlyIf (decide (0 ≤ pf)) (attrB 64 5 (b32 (pf % 4294967296))) = a := ⟨_, rfl⟩
    have Kl11 : a11.length ≤ 15000 := by rw [← ha11]; exact only_len Kl9 (by rw [b32_len]; omega)
    have E11 := Lib.hid ha11
    go_upto_if 44 with fail
    go_cut [6] (fun s6 wx => ∃ (A : Option Addr) (n c : Nat), s6 = .slice A n c ∧ OB wx 5 q A n c a11 ∧ Below W.heap.size W wx)
    case first =>
      by_cases h0 : 0 ≤ pf
      case neg =>
        have t0 : decide (0 ≤ pf) = false := decide_eq_false h0
        go_wp2_with fail
        go_meet
        exact ⟨A9, n9, c9, rfl, by rw [← ha11, t0]; simpa [onlyIf] using o9, bk9⟩
      have t0 : decide (0 ≤ pf) = true := decide_eq_true h0
      have hmb : pf ≤ 4294967295 := HNB.out.2.2
      have hmw : IntKind.u32.wrap pf = pf := by rw [IntKind.wrap_u32]; omega
      have hmm : pf % 4294967296 = pf := by omega
      have HM := Lib.hid (And.intro h0 (show pf < 4294967296 by omega))
      clear h0 hmb
      go_wp2_with fail
      refine (HP32.out pf _ HM.out.1 HM.out.2).mono ?_
      rintro _ w90 ⟨A91, n91, c91, rfl, o91, b90⟩
      have bk90 := btr bk9 b90 bk9.size
      obtain ⟨A90, n90, c90, hA90⟩ : ∃ A n c, A = A9 ∧ n = n9 ∧ c = c9 := ⟨_, _, _, rfl, rfl, rfl⟩
      obtain ⟨rfl, rfl, rfl⟩ := hA90
      have o90 := o9.below b90
      go_wp2_with fail
      refine (refAttr04 A90 n90 c90 a9 64 5 A91 n91 c91 (b32 pf) w90 o90.bs (o91.bs) (by omega) (by omega) (by omega) (by omega) (by have := Kl9; omega) (by have := (show (b32 pf).length ≤ 2000 by rw [b32_len]; omega); omega)).mono ?_
      rintro _ w92 ⟨A92, n92, c92, rfl, o92, b92⟩
      have bk92 := btr bk90 b92 bk90.size
      have o92 := o92.low (Nat.le_trans hqW bk90.size)
      go_wp2_with fail
      go_meet
      exact ⟨A92, n92, c92, rfl, by rw [← ha11, t0, hmm]; exact o92, bk92⟩
    case rest =>
      obtain ⟨A11, n11, c11, rfl, o11, bk11⟩ := hcut
      obtain ⟨w11, hw11⟩ : ∃ x, x = wc := ⟨_, rfl⟩
      subst hw11
      clear ha11
      have X_11 := hX.below bk11 hXl
      have x5 : w11.cell? ⟨q, 5, none⟩ = some (.bool at_) := X_11.cell 5
      obtain ⟨a13, ha13⟩ : ∃ a, a11 ++ onlyIf at_ (attrB 64 6 ([])) = a := ⟨_, rfl⟩
      have Kl13 : a13.length ≤ 18000 := by rw [← ha13]; exact only_len Kl11 (by simp)
      have E13 := Lib.hid ha13
      go_upto_if 52 with fail
      go_cut [6] (fun s6 wx => ∃ (A : Option Addr) (n c : Nat), s6 = .slice A n c ∧ OB wx 5 q A n c a13 ∧ Below W.heap.size W wx)
      case first =>
        cases at_
        · skip
          go_wp2_with fail
          go_meet
          exact ⟨A11, n11, c11, rfl, by rw [← ha13]; simpa [onlyIf] using o11, bk11⟩
        · skip
          go_wp2_with fail
          refine (refAttr04 A11 n11 c11 a11 64 6 none 0 0 ([]) w11 o11.bs (⟨rfl, Reads.none_⟩) (by omega) (by omega) (by omega) (by omega) (by have := Kl11; omega) (by have := (show ([] : List UInt8).length ≤ 2000 by simp); omega)).mono ?_
          rintro _ w12 ⟨A12, n12, c12, rfl, o12, b12⟩
          have bk12 := btr bk11 b12 bk11.size
          have o12 := o12.low (Nat.le_trans hqW bk11.size)
          go_wp2_with fail
          go_meet
          exact ⟨A12, n12, c12, rfl, by rw [← ha13]; exact o12, bk12⟩
      case rest =>
        obtain ⟨A13, n13, c13, rfl, o13, bk13⟩ := hcut
        obtain ⟨w13, hw13⟩ : ∃ x, x = wc := ⟨_, rfl⟩
        subst hw13
        clear ha13
        have X_13 := hX.below bk13 hXl
        have x6 : w13.cell? ⟨q, 6, none⟩ = some (.bool ha) := X_13.cell 6
        obtain ⟨a15, ha15⟩ : ∃ a, a13 ++ onlyIf ha (attrB 192 7 (asB false gs ++ b32 ga)) = a := ⟨_, rfl⟩
        have Kl15 : a15.length ≤ 21000 := by rw [← ha15]; exact only_len Kl13 (by rw [List.length_append, b32_len]; have := asB_len false gs; omega)
        have E15 := Lib.hid ha15
        go_upto_if 56 with fail
        go_cut [6] (fun s6 wx => ∃ (A : Option Addr) (n c : Nat), s6 = .slice A n c ∧ OB wx 5 q A n c a15 ∧ Below W.heap.size W wx)
        case first =>
          cases ha
          · skip
            go_wp2_with fail
            go_meet
            exact ⟨A13, n13, c13, rfl, by rw [← ha15]; simpa [onlyIf] using o13, bk13⟩
          · skip
            have X_13 := hX.below bk13 hXl
            have x7 : w13.cell? ⟨q, 7, none⟩ = some (.int .u32 gs) := X_13.cell 7
            by_cases hbg : 65535 < gs
            · have tb : decide (65535 < gs) = true := decide_eq_true hbg
              have HA := Lib.hid (show asB false gs = b16 23456 by unfold asB; rw [if_neg (by simp), if_pos hbg])
              clear hbg
              go_wp2_with fail
              refine (ref01Put16 none 0 0 [] 23456 _ ⟨rfl, Reads.none_⟩ (by simp)).mono ?_
              rintro _ w14 ⟨A14a, n14a, c14a, rfl, o14x, b14⟩
              have o14a : OB w14 5 w13.heap.size A14a n14a c14a (asB false gs) := by rw [HA.out]; exact o14x
              clear x7 tb
              have bk14 := btr bk13 b14 bk13.size
              obtain ⟨A14, n14, c14, hA14⟩ : ∃ A n c, A = A13 ∧ n = n13 ∧ c = c13 := ⟨_, _, _, rfl, rfl, rfl⟩
              obtain ⟨rfl, rfl, rfl⟩ := hA14
              have o14 := o13.below b14
              have X_14 := hX.below bk14 hXl
              have x8 : w14.cell? ⟨q, 8, none⟩ = some (.int .u32 ga) := X_14.cell 8
              go_wp2_with fail
              refine (ref01Put32 A14a n14a c14a (asB false gs) ga _ o14a.bs (by have := asB_len false gs; omega) HWA.out.1 HWA.out.2).mono ?_
              rintro _ w16 ⟨A16a, n16a, c16a, rfl, o16a, b16⟩
              clear x8
              have bk16 := btr bk14 b16 bk14.size
              obtain ⟨A16, n16, c16, hA16⟩ : ∃ A n c, A = A14 ∧ n = n14 ∧ c = c14 := ⟨_, _, _, rfl, rfl, rfl⟩
              obtain ⟨rfl, rfl, rfl⟩ := hA16
              have o16 := o14.below b16
              go_wp2_with fail
              refine (refAttr04 A16 n16 c16 a13 192 7 A16a n16a c16a (asB false gs ++ b32 ga) w16 o16.bs (o16a.bs) (by omega) (by omega) (by omega) (by omega) (by have := Kl13; omega) (by have := (show (asB false gs ++ b32 ga).length ≤ 2000 by rw [List.length_append, b32_len]; have := asB_len false gs; omega); omega)).mono ?_
              rintro _ w17 ⟨A17, n17, c17, rfl, o17, b17⟩
              have bk17 := btr bk16 b17 bk16.size
              have o17 := o17.low (Nat.le_trans hqW bk16.size)
              go_wp2_with fail
              go_meet
              exact ⟨A17, n17, c17, rfl, by rw [← ha15]; exact o17, bk17⟩
            · have tb : decide (65535 < gs) = false := decide_eq_false hbg
              have HA := Lib.hid (show asB false gs = b16 gs by unfold asB; rw [if_neg (by simp), if_neg hbg])
              have wg : IntKind.i64.wrap gs = gs := IntWalk.i64_in _ ⟨by have := HWG.out.1; omega, by have := HWG.out.2; omega⟩
              clear hbg
              go_wp2_with fail
              refine (ref01Put16 none 0 0 [] gs _ ⟨rfl, Reads.none_⟩ (by simp)).mono ?_
              rintro _ w14 ⟨A14a, n14a, c14a, rfl, o14x, b14⟩
              have o14a : OB w14 5 w13.heap.size A14a n14a c14a (asB false gs) := by rw [HA.out]; exact o14x
              clear x7 tb
              have bk14 := btr bk13 b14 bk13.size
              obtain ⟨A14, n14, c14, hA14⟩ : ∃ A n c, A = A13 ∧ n = n13 ∧ c = c13 := ⟨_, _, _, rfl, rfl, rfl⟩
              obtain ⟨rfl, rfl, rfl⟩ := hA14
              have o14 := o13.below b14
              have X_14 := hX.below bk14 hXl
              have x8 : w14.cell? ⟨q, 8, none⟩ = some (.int .u32 ga) := X_14.cell 8
              go_wp2_with fail
              refine (ref01Put32 A14a n14a c14a (asB false gs) ga _ o14a.bs (by have := asB_len false gs; omega) HWA.out.1 HWA.out.2).mono ?_
              rintro _ w16 ⟨A16a, n16a, c16a, rfl, o16a, b16⟩
              clear x8
              have bk16 := btr bk14 b16 bk14.size
              obtain ⟨A16, n16, c16, hA16⟩ : ∃ A n c, A = A14 ∧ n = n14 ∧ c = c14 := ⟨_, _, _, rfl, rfl, rfl⟩
              obtain ⟨rfl, rfl, rfl⟩ := hA16
              have o16 := o14.below b16
              go_wp2_with fail
              refine (refAttr04 A16 n16 c16 a13 192 7 A16a n16a c16a (asB false gs ++ b32 ga) w16 o16.bs (o16a.bs) (by omega) (by omega) (by omega) (by omega) (by have := Kl13; omega) (by have := (show (asB false gs ++ b32 ga).length ≤ 2000 by rw [List.length_append, b32_len]; have := asB_len false gs; omega); omega)).mono ?_
              rintro _ w17 ⟨A17, n17, c17, rfl, o17, b17⟩
              have bk17 := btr bk16 b17 bk16.size
              have o17 := o17.low (Nat.le_trans hqW bk16.size)
              go_wp2_with fail
              go_meet
              exact ⟨A17, n17, c17, rfl, by rw [← ha15]; exact o17, bk17⟩
        case rest =>
          obtain ⟨A15, n15, c15, rfl, o15, bk15⟩ := hcut
          obtain ⟨w15, hw15⟩ : ∃ x, x = wc := ⟨_, rfl⟩
          subst hw15
          clear ha15
          have HCL := Lib.hid (show (comms.flatMap b32).length ≤ 2000 ∧ comms.length ≤ 32 by have h1 := b32_flat comms; have h2 : comms.length ≤ 32 := HRG.out.2.2.2.2.2.1; omega)
          have X_15 := hX.below bk15 hXl
          have x9 : w15.cell? ⟨q, 9, none⟩ = some (.slice A1 n1 c1) := X_15.cell 9
          obtain ⟨dc, hdc⟩ : ∃ d, decide (0 < n1) = d := ⟨_, rfl⟩
          have hdc' : decide ((0 : Int) < (n1 : Int)) = dc := by rw [← hdc]; exact decide_eq_decide.2 (by omega)
          have HDC := Lib.hid hdc
          obtain ⟨a21, ha21⟩ : ∃ a, a15 ++ onlyIf (decide (0 < comms.length)) (attrB 192 8 (comms.flatMap b32)) = a := ⟨_, rfl⟩
          have Kl21 : a21.length ≤ 24000 := by rw [← ha21]; exact only_len Kl15 (HCL.out.1)
          have E21 := Lib.hid ha21
          go_upto_if 81 with fail
          go_cut [6] (fun s6 wx => ∃ (A : Option Addr) (n c : Nat), s6 = .slice A n c ∧ OB wx 5 q A n c a21 ∧ Below W.heap.size W wx)
          case first =>
            cases dc
            case false =>
              have HD := Lib.hid (show decide (0 < comms.length) = false by rw [← HC.out]; exact HDC.out)
              clear hdc hdc'
              go_wp2_with fail
              go_meet
              exact ⟨A15, n15, c15, rfl, by rw [← ha21, HD.out]; simpa [onlyIf] using o15, bk15⟩
            have HD := Lib.hid (show decide (0 < comms.length) = true by rw [← HC.out]; exact HDC.out)
            clear hdc hdc'
            have hzq := Lib.hid (show q ≤ w15.heap.size from Nat.le_trans hqW bk15.size)
            go_wp2_with fail
            go_loopw [8, 9] (fun x i wr => ∃ (j : Nat) (A5 : Option Addr) (n5 c5 : Nat), j ≤ n1 ∧ i = .int .i64 j ∧ x = .slice A5 n5 c5 ∧ OB wr 5 w15.heap.size A5 n5 c5 ((comms.take j).flatMap b32) ∧ Below w15.heap.size w15 wr) (fun _ i _ => n1 - (intOf i).toNat)
            case atStart => exact ⟨0, none, 0, 0, by omega, rfl, rfl, OB.nil_, Below.refl _ _⟩
            case round =>
              obtain ⟨j, A5, n5, c5, hj, rfl, rfl, o5, b16⟩ := hrel
              have bkr := btr bk15 b16 bk15.size
              have X_r := hX.below bkr hXl
              have x9 : wr.cell? ⟨q, 9, none⟩ = some (.slice A1 n1 c1) := X_r.cell 9
              by_cases hlt : j < n1
              case pos =>
                have d1 : decide ((j : Int) < n1) = true := decide_eq_true (by omega)
                have d1' : decide (j < n1) = true := decide_eq_true hlt
                have hlti : (j : Int) < n1 := by omega
                have hj0 : (0 : Int) ≤ (j : Int) := by omega
                obtain ⟨y, hy⟩ : ∃ y, comms[j]? = some y := ⟨_, List.getElem?_eq_getElem (by have := HC.out; omega)⟩
                have hcr := HCK.out _ bkr
                obtain ⟨b, off, rfl, hbl, k0⟩ := hcr.at_ hy
                obtain ⟨hy0, hy1⟩ := hcr.wf_ hy
                have HY := Lib.hid (b32_take hy)
                have HYB := Lib.hid (show 0 ≤ y ∧ y < 4294967296 by omega)
                have HLN := Lib.hid (show ((comms.take j).flatMap b32).length ≤ 100000 by have h1 := b32_flat (comms.take j); have h2 := HCL.out.2; rw [List.length_take] at h1; omega)
                have wj : IntKind.i64.wrap ((j : Int) + 1) = (j : Int) + 1 := IntWalk.i64_in _ ⟨by omega, by have h1 := HCL.out.2; have h2 := HC.out; omega⟩
                clear hy hy0 hy1 hcr
                go_wp2_with fail
                refine (ref01Put32 A5 n5 c5 _ y _ o5.bs (by have := HLN.out; omega) HYB.out.1 HYB.out.2).mono ?_
                rintro _ w6 ⟨A6, n6, c6, rfl, o6, b6⟩
                go_wp2_with fail
                go_roundw
                case rel => exact ⟨j + 1, A6, n6, c6, by omega, by go_num, rfl, by rw [HY.out]; exact o6.low b16.size, btr b16 b6 b16.size⟩
                case measure => simp [intOf]; omega
              have d1 : decide ((j : Int) < n1) = false := decide_eq_false (by omega)
              have d1' : decide (j < n1) = false := decide_eq_false hlt
              have oC : OB wr 5 w15.heap.size A5 n5 c5 (comms.flatMap b32) := by rw [List.take_of_length_le (by have := HC.out; omega)] at o5; exact o5
              obtain ⟨w16, hw16⟩ : ∃ x, x = wr := ⟨_, rfl⟩
              subst hw16
              clear hlt o5 hj bkr X_r
              have bk16 := btr bk15 b16 bk15.size
              obtain ⟨A16, n16, c16, hA16⟩ : ∃ A n c, A = A15 ∧ n = n15 ∧ c = c15 := ⟨_, _, _, rfl, rfl, rfl⟩
              obtain ⟨rfl, rfl, rfl⟩ := hA16
              have o16 := o15.below b16
              go_wp2_with fail
              refine (refAttr04 A16 n16 c16 a15 192 8 A5 n5 c5 (comms.flatMap b32) w16 o16.bs (oC.bs) (by omega) (by omega) (by omega) (by omega) (by have := Kl15; omega) (by have := (HCL.out.1); omega)).mono ?_
              rintro _ w17 ⟨A17, n17, c17, rfl, o17, b17⟩
              have bk17 := btr bk16 b17 bk16.size
              have o17 := o17.low (Nat.le_trans hqW bk16.size)
              go_wp2_with fail
              go_meet
              exact ⟨A17, n17, c17, rfl, by rw [← ha21, HD.out]; exact o17, bk17⟩
          case rest =>
            obtain ⟨A21, n21, c21, rfl, o21, bk21⟩ := hcut
            obtain ⟨w21, hw21⟩ : ∃ x, x = wc := ⟨_, rfl⟩
            subst hw21
            clear ha21
            go_wp2_with fail
            go_loopw [6, 10] (fun x i wr => ∃ (j : Nat) (A0 : Option Addr) (n0 c0 : Nat) (acc : List UInt8), j ≤ n2 ∧ i = .int .i64 j ∧ x = .slice A0 n0 c0 ∧ OB wr 5 q A0 n0 c0 acc ∧ Below W.heap.size W wr ∧ Hid (acc = a21 ++ (raws.take j).flatMap (fun x => attrB x.1 x.2.1 x.2.2)) ∧ Hid (acc.length ≤ 24000 + 3000 * j)) (fun _ i _ => n2 - (intOf i).toNat)
            case atStart => exact ⟨0, A21, n21, c21, a21, by omega, rfl, rfl, o21, bk21, Lib.hid (by simp), Lib.hid (by have := Kl21; omega)⟩
            case round =>
              obtain ⟨j, A0, n0, c0, acc, hj, rfl, rfl, o0, bkr, HAC, HAL⟩ := hrel
              have X_r := hX.below bkr hXl
              have x10 : wr.cell? ⟨q, 10, none⟩ = some (.slice A2 n2 c2) := X_r.cell 10
              by_cases hlt : j < n2
              case pos =>
                have d1 : decide ((j : Int) < n2) = true := decide_eq_true (by omega)
                have d1' : decide (j < n2) = true := decide_eq_true hlt
                have hlti : (j : Int) < n2 := by omega
                have hj0 : (0 : Int) ≤ (j : Int) := by omega
                have hj8 : n2 ≤ 8 := by have h1 : raws.length ≤ 8 := HRG.out.2.2.2.2.2.2.2; have := HN.out; omega
                obtain ⟨x, hx⟩ := getL HN.out hlt
                have hdr := HDK.out wr bkr
                obtain ⟨b, off, A6, n6, c6, rfl, hbl, k0, k1, k2, hbf, hnc6, wf0, wf1⟩ := hdr.rawAt hx
                have hbl : b < wr.heap.size := hbl
                have HTA := Lib.hid (raws_take hx)
                have HGD := Lib.hid (good_raw HRG.out.2.2.2.2.2.2.1 hx)
                obtain ⟨fl, ty, dat⟩ := x
                simp only at k0 k1
                have wj : IntKind.i64.wrap ((j : Int) + 1) = (j : Int) + 1 := IntWalk.i64_in _ ⟨by omega, by omega⟩
                have hbs : BS wr.drew wr.drew.heap.size A6 n6 dat := hbf.lt
                have hod : OB wr.drew 5 q A0 n0 c0 acc := o0
                have HFL := Lib.hid (show fl = 224 from HGD.out.1)
                have HVL := Lib.hid (show (attrB fl ty dat).length ≤ 3000 by have h1 := attrB_len fl ty dat; have h : dat.length ≤ 64 := HGD.out.2.2.2.1; omega)
                have hqd : q < wr.drew.heap.size := X_r.lt
                have hbd : b < wr.drew.heap.size := hbl
                have ct : wr.drew.cell? ⟨q, 10, none⟩ = some (.slice (some ⟨b, off, none⟩) n2 c2) ∧ wr.drew.cell? ⟨b, off + j * 3 + 1, none⟩ = some (.int .i64 ty) ∧ wr.drew.cell? ⟨b, off + j * 3 + 2, none⟩ = some (.slice A6 n6 c6) := ⟨x10, k1, k2⟩
                clear hx hbf wf0 wf1 hnc6 hdr
                go_upto_region 30 with fail
                clear k0 k1 k2 x10
                rename_i hk
                have HKK := Lib.hid hk
                clear hk
                refine wp_region_held_drew (S := (fun w' => w'.cell? ⟨q, 10, none⟩ = some (.slice (some ⟨b, off, none⟩) n2 c2) ∧ w'.cell? ⟨b, off + j * 3 + 1, none⟩ = some (.int .i64 ty) ∧ w'.cell? ⟨b, off + j * 3 + 2, none⟩ = some (.slice A6 n6 c6))) (by kernel_rfl) ?_ (fun hHeld => ?_)
                · first | exact ct | exact ct5
                refine wpAnyH_take (i := 0) (v := ?rrv0) rfl (by kernel_rfl) (by kernel_rfl) (by kernel_rfl) (by intro _ _ _ h; exact h) (Or.inl ⟨by rfl, ?rrhy0⟩) (by assumption) ?rrrest0
                case rrhy0 => (intro w hSw; (try dsimp only at hSw); go_simp; try with_reducible rfl)
                try simp only [Act.put, List.getElem_toArray, List.getElem_cons_succ, List.getElem_cons_zero, List.setIfInBounds_toArray, List.set_cons_zero, List.set_cons_succ]
                refine wpAnyH_take (i := 1) (v := ?rrv1) rfl (by kernel_rfl) (by kernel_rfl) (by kernel_rfl) (by intro _ _ _ h; exact h) (Or.inl ⟨by rfl, ?rrhy1⟩) (by assumption) ?rrrest1
                case rrhy1 => (intro w hSw; (try dsimp only at hSw); go_simp; try with_reducible rfl)
                try simp only [Act.put, List.getElem_toArray, List.getElem_cons_succ, List.getElem_cons_zero, List.setIfInBounds_toArray, List.set_cons_zero, List.set_cons_succ]
                refine wpAnyH_take (i := 2) (v := ?rrv2) rfl (by kernel_rfl) (by kernel_rfl) (by kernel_rfl) (by intro _ _ _ h; exact h) (Or.inl ⟨by rfl, ?rrhy2⟩) (by assumption) ?rrrest2
                case rrhy2 => (intro w hSw; (try dsimp only at hSw); go_simp; try with_reducible rfl)
                try simp only [Act.put, List.getElem_toArray, List.getElem_cons_succ, List.getElem_cons_zero, List.setIfInBounds_toArray, List.set_cons_zero, List.set_cons_succ]
                refine wpAnyH_take (i := 3) (v := ?rrv3) rfl (by kernel_rfl) (by kernel_rfl) (by kernel_rfl) (by intro _ _ _ h; exact h) (Or.inl ⟨by rfl, ?rrhy3⟩) (by assumption) ?rrrest3
                case rrhy3 => (intro w hSw; (try dsimp only at hSw); go_simp; try with_reducible rfl)
                try simp only [Act.put, List.getElem_toArray, List.getElem_cons_succ, List.getElem_cons_zero, List.setIfInBounds_toArray, List.set_cons_zero, List.set_cons_succ]
                refine wpAnyH_take (i := 4) (v := ?rrv4) rfl (by kernel_rfl) (by kernel_rfl) (by kernel_rfl) (by intro _ _ _ h; exact h) (Or.inl ⟨by rfl, ?rrhy4⟩) (by assumption) ?rrrest4
                case rrhy4 => (intro w hSw; (try dsimp only at hSw); go_simp; try with_reducible rfl)
                try simp only [Act.put, List.getElem_toArray, List.getElem_cons_succ, List.getElem_cons_zero, List.setIfInBounds_toArray, List.set_cons_zero, List.set_cons_succ]
                refine wpAnyH_take (i := 5) (v := ?rrv5) rfl (by kernel_rfl) (by kernel_rfl) (by kernel_rfl) (by intro _ _ _ h; exact h) (Or.inl ⟨by rfl, ?rrhy5⟩) (by assumption) ?rrrest5
                case rrhy5 => (intro w hSw; (try dsimp only at hSw); go_simp; try with_reducible rfl)
                try simp only [Act.put, List.getElem_toArray, List.getElem_cons_succ, List.getElem_cons_zero, List.setIfInBounds_toArray, List.set_cons_zero, List.set_cons_succ]
                refine wpAnyH_take (i := 6) (v := ?rrv6) rfl (by kernel_rfl) (by kernel_rfl) (by kernel_rfl) (by intro _ _ _ h; exact h) (Or.inl ⟨by rfl, ?rrhy6⟩) (by assumption) ?rrrest6
                case rrhy6 => (intro w hSw; (try dsimp only at hSw); go_simp; try with_reducible rfl)
                try simp only [Act.put, List.getElem_toArray, List.getElem_cons_succ, List.getElem_cons_zero, List.setIfInBounds_toArray, List.set_cons_zero, List.set_cons_succ]
                refine wpAnyH_take (i := 7) (v := ?rrv7) rfl (by kernel_rfl) (by kernel_rfl) (by kernel_rfl) (by intro _ _ _ h; exact h) (Or.inl ⟨by rfl, ?rrhy7⟩) (by assumption) ?rrrest7
                case rrhy7 => (intro w hSw; (try dsimp only at hSw); go_simp; try with_reducible rfl)
                try simp only [Act.put, List.getElem_toArray, List.getElem_cons_succ, List.getElem_cons_zero, List.setIfInBounds_toArray, List.set_cons_zero, List.set_cons_succ]
                refine wpAnyH_take (i := 8) (v := ?rrv8) rfl (by kernel_rfl) (by kernel_rfl) (by kernel_rfl) (by intro _ _ _ h; exact h) (Or.inl ⟨by rfl, ?rrhy8⟩) (by assumption) ?rrrest8
                case rrhy8 => (intro w hSw; (try dsimp only at hSw); go_simp; try with_reducible rfl)
                try simp only [Act.put, List.getElem_toArray, List.getElem_cons_succ, List.getElem_cons_zero, List.setIfInBounds_toArray, List.set_cons_zero, List.set_cons_succ]
                refine wpAnyH_take (i := 9) (v := ?rrv9) rfl (by kernel_rfl) (by kernel_rfl) (by kernel_rfl) (by intro _ _ _ h; exact h) (Or.inl ⟨by rfl, ?rrhy9⟩) (by assumption) ?rrrest9
                case rrhy9 => (intro w hSw; (try dsimp only at hSw); go_simp; try with_reducible rfl)
                try simp only [Act.put, List.getElem_toArray, List.getElem_cons_succ, List.getElem_cons_zero, List.setIfInBounds_toArray, List.set_cons_zero, List.set_cons_succ]
                refine wpAnyH_take (i := 10) (v := ?rrv10) rfl (by kernel_rfl) (by kernel_rfl) (by kernel_rfl) (by intro _ _ _ h; exact h) (Or.inl ⟨by rfl, ?rrhy10⟩) (by assumption) ?rrrest10
                case rrhy10 => (intro w hSw; (try dsimp only at hSw); go_simp; try with_reducible rfl)
                try simp only [Act.put, List.getElem_toArray, List.getElem_cons_succ, List.getElem_cons_zero, List.setIfInBounds_toArray, List.set_cons_zero, List.set_cons_succ]
                refine wpAnyH_take (i := 11) (v := ?rrv11) rfl (by kernel_rfl) (by kernel_rfl) (by kernel_rfl) (by intro _ _ _ h; exact h) (Or.inl ⟨by rfl, ?rrhy11⟩) (by assumption) ?rrrest11
                case rrhy11 => (intro w hSw; (try dsimp only at hSw); go_simp; try with_reducible rfl)
                try simp only [Act.put, List.getElem_toArray, List.getElem_cons_succ, List.getElem_cons_zero, List.setIfInBounds_toArray, List.set_cons_zero, List.set_cons_succ]
                refine wpAnyH_take (i := 12) (v := ?rrv12) rfl (by kernel_rfl) (by kernel_rfl) (by kernel_rfl) (by intro _ _ _ h; exact h) (Or.inl ⟨by rfl, ?rrhy12⟩) (by assumption) ?rrrest12
                case rrhy12 => (intro w hSw; (try dsimp only at hSw); go_simp; try with_reducible rfl)
                try simp only [Act.put, List.getElem_toArray, List.getElem_cons_succ, List.getElem_cons_zero, List.setIfInBounds_toArray, List.set_cons_zero, List.set_cons_succ]
                refine wpAnyH_ready (rs := [13]) (by kernel_rfl) (by simp) ?_
                refine AllReadyH.cons rfl (fun K hK => ?_) AllReadyH.nil
                go_simp
                go_wp2_with (go_at_call 98; refine (refAttr04 A0 n0 c0 acc 224 ty A6 n6 c6 dat _ hod.bs hbs (by omega) (by omega) HGD.out.2.1 HGD.out.2.2.1 (by have h1 := HAL.out; omega) (by have h : dat.length ≤ 64 := HGD.out.2.2.2.1; omega)).mono ?_; rintro _ w30 ⟨A30, n30, c30, rfl, o30, b30⟩; have ct5 := And.intro ((b30.cell (p := ⟨q, 10, none⟩) hqd).trans ct.1) (And.intro ((b30.cell (p := ⟨b, off + j * 3 + 1, none⟩) hbd).trans ct.2.1) ((b30.cell (p := ⟨b, off + j * 3 + 2, none⟩) hbd).trans ct.2.2)))
                refine hK.out _ _ ?_ (fun hHeld => ?_)
                · try dsimp only
                  first | exact ct | exact ct5
                clear hK K
                refine wpAnyH_ready (rs := [14]) (by kernel_rfl) (by simp) ?_
                refine AllReadyH.cons rfl (fun K hK => ?_) AllReadyH.nil
                go_simp
                go_wp2_with (fail)
                refine hK.out _ _ ?_ (fun hHeld => ?_)
                · try dsimp only
                  first | exact ct | exact ct5
                clear hK K
                refine wpAnyH_done (by kernel_rfl) ?_ _
                refine HKK.out _ _ ?_
                have HNX := Lib.hid (show acc ++ attrB 224 ty dat = a21 ++ (raws.take (j + 1)).flatMap (fun x => attrB x.1 x.2.1 x.2.2) by rw [HTA.out, HAC.out, List.append_assoc, HFL.out])
                have HNL := Lib.hid (show (acc ++ attrB 224 ty dat).length ≤ 24000 + 3000 * (j + 1) by have h1 := HAL.out; have h2 := HVL.out; rw [HFL.out] at h2; rw [List.length_append]; omega)
                have bkz := btr bkr ((Below.refl wr.heap.size wr).drew.trans b30) bkr.size
                have oz := o30.low (Nat.le_trans hqW bkr.size)
                clear hHeld ct ct5
                go_wp2_with fail
                go_roundw
                case rel => exact ⟨j + 1, A30, n30, c30, _, by omega, by go_num, rfl, oz, bkz, HNX, HNL⟩
                case measure => simp [intOf]; omega
              have d1 : decide ((j : Int) < n2) = false := decide_eq_false (by omega)
              have d1' : decide (j < n2) = false := decide_eq_false hlt
              have E24 := Lib.hid (show acc = a21 ++ raws.flatMap (fun x => attrB x.1 x.2.1 x.2.2) by have := HAC.out; rwa [List.take_of_length_le (by have := HN.out; omega)] at this)
              have Kl24 : acc.length ≤ 48000 := by have h1 := HAL.out; have h2 : raws.length ≤ 8 := HRG.out.2.2.2.2.2.2.2; have := HN.out; omega
              obtain ⟨w24, hw24⟩ : ∃ w', w' = wr := ⟨_, rfl⟩
              subst hw24
              obtain ⟨A24, n24, c24, h24⟩ : ∃ A n c, A = A0 ∧ n = n0 ∧ c = c0 := ⟨_, _, _, rfl, rfl, rfl⟩
              obtain ⟨rfl, rfl, rfl⟩ := h24
              have o24 := o0
              have bk24 := bkr
              clear hlt hj o0 bkr X_r
              have X_24 := hX.below bk24 hXl
              have x1 : w24.cell? ⟨q, 1, none⟩ = some (.slice A n c) := X_24.cell 1
              go_wp2_with fail
              refine (refFlat03 A n c path _ (HPK.out _ bk24) (by omega) hs).mono ?_
              rintro _ w25 ⟨Af, nf, cf, rfl, of_, b25⟩
              have HNF := Lib.hid of_.1
              have hnf := of_.ns
              have HFB := Lib.hid (show nf ≤ 64 by have h1 := of_.1; have h2 := flatA_len path; have h3 : sumN path ≤ 64 := (rightA_of HRG.out.2.1).2.1; omega)
              clear of_ x1 x10
              have bk25 := btr bk24 b25 bk24.size
              obtain ⟨A25, n25, c25, hA25⟩ : ∃ A n c, A = A24 ∧ n = n24 ∧ c = c24 := ⟨_, _, _, rfl, rfl, rfl⟩
              obtain ⟨rfl, rfl, rfl⟩ := hA25
              have o25 := o24.below b25
              go_wp2_with fail
              go_loopw [11, 13] (fun x i wr => ∃ (j : Nat) (bb : Bool), j ≤ nf ∧ i = .int .i64 j ∧ x = .bool bb ∧ wr = w25 ∧ Hid (bb = bigN ((flatA path).take j))) (fun _ i _ => nf - (intOf i).toNat)
              case atStart => exact ⟨0, false, by omega, rfl, rfl, rfl, Lib.hid (by simp [bigN])⟩
              case round =>
                obtain ⟨j, bb, hj, rfl, rfl, rfl, HBB⟩ := hrel
                by_cases hlt : j < nf
                case pos =>
                  have d2 : decide ((j : Int) < nf) = true := decide_eq_true (by omega)
                  have d2' : decide (j < nf) = true := decide_eq_true hlt
                  have hlti : (j : Int) < nf := by omega
                  have hj0 : (0 : Int) ≤ (j : Int) := by omega
                  obtain ⟨y, hy⟩ : ∃ y, (flatA path)[j]? = some y := ⟨_, List.getElem?_eq_getElem (by have := HNF.out; omega)⟩
                  obtain ⟨b, off, rfl, hbw, hcw⟩ := hnf.form hlt
                  rw [hy, Option.getD_some] at hcw
                  have HST := Lib.hid (show bigN ((flatA path).take (j + 1)) = (bb || decide (65535 < y)) by
                    rw [List.take_succ_eq_append_getElem (List.getElem?_eq_some_iff.1 hy).1, (List.getElem?_eq_some_iff.1 hy).2, HBB.out]
                    unfold bigN
                    rw [List.any_append]
                    simp)
                  have wj : IntKind.i64.wrap ((j : Int) + 1) = (j : Int) + 1 := IntWalk.i64_in _ ⟨by omega, by have h1 := HFB.out; omega⟩
                  clear hy
                  cases bb
                  · obtain ⟨r, hr⟩ : ∃ r, decide (65535 < y) = r := ⟨_, rfl⟩
                    have HSN := Lib.hid (show r = bigN ((flatA path).take (j + 1)) by rw [HST.out, hr]; rfl)
                    go_wp2_with fail
                    go_roundw
                    case rel => exact ⟨j + 1, r, by omega, by go_num, (by first | rfl | rw [hr]), (by first | rfl | trivial), HSN⟩
                    case measure => simp [intOf]; omega
                  · have HSN := Lib.hid (show true = bigN ((flatA path).take (j + 1)) by rw [HST.out]; rfl)
                    go_wp2_with fail
                    go_roundw
                    case rel => exact ⟨j + 1, true, by omega, by go_num, rfl, (by first | rfl | trivial), HSN⟩
                    case measure => simp [intOf]; omega
                have d2 : decide ((j : Int) < nf) = false := decide_eq_false (by omega)
                have d2' : decide (j < nf) = false := decide_eq_false hlt
                have HBN := Lib.hid (show bigN (flatA path) = bb by have := HBB.out; rw [List.take_of_length_le (by have := HNF.out; omega)] at this; exact this.symm)
                obtain ⟨w26, hw26⟩ : ∃ w', w' = wr := ⟨_, rfl⟩
                subst hw26
                obtain ⟨A26, n26, c26, h26⟩ : ∃ A n c, A = A25 ∧ n = n25 ∧ c = c25 := ⟨_, _, _, rfl, rfl, rfl⟩
                obtain ⟨rfl, rfl, rfl⟩ := h26
                have o26 := o25
                have bk26 := bk25
                clear hlt hj o24 o25 b25 hnf
                obtain ⟨bg, hbg⟩ : ∃ bg, decide (65535 < gs) = bg := ⟨_, rfl⟩
                have HBG := Lib.hid hbg
                cases bb
                · skip
                  obtain ⟨a28, ha28⟩ : ∃ a, acc ++ onlyIf false (attrB 192 17 (putA true path)) = a := ⟨_, rfl⟩
                  have E28 := Lib.hid ha28
                  have Kl28 : a28.length ≤ 51000 := by rw [← ha28]; exact only_len Kl24 HPL.out.2
                  have o26 : OB w26 5 q A26 n26 c26 a28 := by rw [← ha28, only_no]; exact o26
                  clear ha28
                  have X_26 := hX.below bk26 hXl
                  have x7 : w26.cell? ⟨q, 7, none⟩ = some (.int .u32 gs) := X_26.cell 7
                  have x8 : w26.cell? ⟨q, 8, none⟩ = some (.int .u32 ga) := X_26.cell 8
                  cases bg
                  · skip
                    obtain ⟨a32, ha32⟩ : ∃ a, a28 ++ onlyIf false (attrB 192 18 (b32 gs ++ b32 ga)) = a := ⟨_, rfl⟩
                    have E32 := Lib.hid ha32
                    have o32 : OB w26 5 q A26 n26 c26 a32 := by rw [← ha32, only_no]; exact o26
                    clear ha32
                    have HAL2 := Lib.hid (show attsB false (⟨o, path, nx, md, pf, at_, ha, gs, ga, comms, raws⟩ : At) = a32 by
                      rw [← E32.out, ← E28.out, E24.out, ← E21.out, ← E15.out, ← E13.out, ← E11.out, ← E9.out, ← E7.out, ← E5.out, ← E3.out]
                      unfold attsB
                      simp only [HBN.out, HBG.out]
                      simp [onlyIf])
                    go_wp2_with fail
                    go_ret2
                    exact ⟨A26, n26, c26, by rw [HP.out]; rfl, by rw [HP.out, HAL2.out]; exact o32.low (Nat.le_of_eq HQ.out), btr hBW.out bk26 hBW.out.size⟩
                  · skip
                    have cx0 : w26.drew.cell? ⟨q, 7, none⟩ = some (.int .u32 gs) ∧ w26.drew.cell? ⟨q, 8, none⟩ = some (.int .u32 ga) := ⟨x7, x8⟩
                    have od : OB w26.drew 5 q A26 n26 c26 a28 := o26
                    have hqd : q < w26.drew.heap.size := X_26.lt
                    go_upto_region 40 with fail
                    clear x7 x8
                    rename_i hk
                    have HKK := Lib.hid hk
                    clear hk
                    refine wp_region_held_drew (S := (fun w' => w'.cell? ⟨q, 7, none⟩ = some (.int .u32 gs) ∧ w'.cell? ⟨q, 8, none⟩ = some (.int .u32 ga))) (by kernel_rfl) ?_ (fun hHeld => ?_)
                    · first | exact cx0 | exact cx39 | exact cx30 | exact cx31
                    refine wpAnyH_take (i := 0) (v := ?zz126v0) rfl (by kernel_rfl) (by kernel_rfl) (by kernel_rfl) (by intro _ _ _ h; exact h) (Or.inl ⟨by rfl, ?zz126hy0⟩) (by assumption) ?zz126rest0
                    case zz126hy0 => (intro w hSw; (try dsimp only at hSw); go_simp; try with_reducible rfl)
                    try simp only [Act.put, List.getElem_toArray, List.getElem_cons_succ, List.getElem_cons_zero, List.setIfInBounds_toArray, List.set_cons_zero, List.set_cons_succ]
                    refine wpAnyH_take (i := 1) (v := ?zz126v1) rfl (by kernel_rfl) (by kernel_rfl) (by kernel_rfl) (by intro _ _ _ h; exact h) (Or.inl ⟨by rfl, ?zz126hy1⟩) (by assumption) ?zz126rest1
                    case zz126hy1 => (intro w hSw; (try dsimp only at hSw); go_simp; try with_reducible rfl)
                    try simp only [Act.put, List.getElem_toArray, List.getElem_cons_succ, List.getElem_cons_zero, List.setIfInBounds_toArray, List.set_cons_zero, List.set_cons_succ]
                    refine wpAnyH_take (i := 2) (v := ?zz126v2) rfl (by kernel_rfl) (by kernel_rfl) (by kernel_rfl) (by intro _ _ _ h; exact h) (Or.inl ⟨by rfl, ?zz126hy2⟩) (by assumption) ?zz126rest2
                    case zz126hy2 => (intro w hSw; (try dsimp only at hSw); go_simp; try with_reducible rfl)
                    try simp only [Act.put, List.getElem_toArray, List.getElem_cons_succ, List.getElem_cons_zero, List.setIfInBounds_toArray, List.set_cons_zero, List.set_cons_succ]
                    refine wpAnyH_take (i := 4) (v := ?zz126v4) rfl (by kernel_rfl) (by kernel_rfl) (by kernel_rfl) (by intro _ _ _ h; exact h) (Or.inl ⟨by rfl, ?zz126hy4⟩) (by assumption) ?zz126rest4
                    case zz126hy4 => (intro w hSw; (try dsimp only at hSw); go_simp; try with_reducible rfl)
                    try simp only [Act.put, List.getElem_toArray, List.getElem_cons_succ, List.getElem_cons_zero, List.setIfInBounds_toArray, List.set_cons_zero, List.set_cons_succ]
                    refine wpAnyH_take (i := 5) (v := ?zz126v5) rfl (by kernel_rfl) (by kernel_rfl) (by kernel_rfl) (by intro _ _ _ h; exact h) (Or.inl ⟨by rfl, ?zz126hy5⟩) (by assumption) ?zz126rest5
                    case zz126hy5 => (intro w hSw; (try dsimp only at hSw); go_simp; try with_reducible rfl)
                    try simp only [Act.put, List.getElem_toArray, List.getElem_cons_succ, List.getElem_cons_zero, List.setIfInBounds_toArray, List.set_cons_zero, List.set_cons_succ]
                    refine wpAnyH_ready (rs := [3]) (by kernel_rfl) (by simp) ?_
                    refine AllReadyH.cons rfl (fun K hK => ?_) AllReadyH.nil
                    go_simp
                    go_wp2_with (go_at_call 76; refine (HP32.out gs _ HWG.out.1 HWG.out.2).mono ?_; rintro _ w39 ⟨A39, n39, c39, rfl, o39, b39⟩; have cx39 := And.intro ((b39.cell (p := ⟨q, 7, none⟩) hqd).trans cx0.1) ((b39.cell (p := ⟨q, 8, none⟩) hqd).trans cx0.2); have od39 := od.below b39; have hq39 : q < w39.heap.size := Nat.lt_of_lt_of_le hqd b39.size)
                    refine hK.out _ _ ?_ (fun hHeld => ?_)
                    · try dsimp only
                      first | exact cx0 | exact cx39 | exact cx30 | exact cx31
                    clear hK K
                    refine wpAnyH_ready (rs := [6]) (by kernel_rfl) (by simp) ?_
                    refine AllReadyH.cons rfl (fun K hK => ?_) AllReadyH.nil
                    go_simp
                    go_wp2_with (go_at_call 76; refine (ref01Put32 A39 n39 c39 (b32 gs) ga _ o39.bs (by rw [b32_len]; omega) HWA.out.1 HWA.out.2).mono ?_; rintro _ w30 ⟨A30, n30, c30, rfl, o30, b30⟩; have cx30 := And.intro ((b30.cell (p := ⟨q, 7, none⟩) hq39).trans cx39.1) ((b30.cell (p := ⟨q, 8, none⟩) hq39).trans cx39.2); have od30 := od39.below b30; have hq30 : q < w30.heap.size := Nat.lt_of_lt_of_le hq39 b30.size)
                    refine hK.out _ _ ?_ (fun hHeld => ?_)
                    · try dsimp only
                      first | exact cx0 | exact cx39 | exact cx30 | exact cx31
                    clear hK K
                    refine wpAnyH_ready (rs := [7]) (by kernel_rfl) (by simp) ?_
                    refine AllReadyH.cons rfl (fun K hK => ?_) AllReadyH.nil
                    go_simp
                    go_wp2_with (go_at_call 98; refine (refAttr04 A26 n26 c26 a28 192 18 A30 n30 c30 (b32 gs ++ b32 ga) _ od30.bs o30.bs (by omega) (by omega) (by omega) (by omega) (by have := Kl28; omega) (by rw [List.length_append, b32_len, b32_len]; omega)).mono ?_; rintro _ w31 ⟨A31, n31, c31, rfl, o31, b31⟩; have cx31 := And.intro ((b31.cell (p := ⟨q, 7, none⟩) hq30).trans cx30.1) ((b31.cell (p := ⟨q, 8, none⟩) hq30).trans cx30.2))
                    refine hK.out _ _ ?_ (fun hHeld => ?_)
                    · try dsimp only
                      first | exact cx0 | exact cx39 | exact cx30 | exact cx31
                    clear hK K
                    refine wpAnyH_ready (rs := [8]) (by kernel_rfl) (by simp) ?_
                    refine AllReadyH.cons rfl (fun K hK => ?_) AllReadyH.nil
                    go_simp
                    go_wp2_with (fail)
                    refine hK.out _ _ ?_ (fun hHeld => ?_)
                    · try dsimp only
                      first | exact cx0 | exact cx39 | exact cx30 | exact cx31
                    clear hK K
                    refine wpAnyH_done (by kernel_rfl) ?_ _
                    refine HKK.out _ _ ?_
                    have bk31 := btr bk26 ((((Below.refl w26.heap.size w26).drew).trans b39).trans ((b30.mono (b39.size)).trans (b31.mono (Nat.le_trans b39.size b30.size)))) bk26.size
                    have o31 := o31.low (Nat.le_trans hqW (Nat.le_trans bk26.size (Nat.le_trans b39.size b30.size)))
                    clear hHeld cx0 cx39 cx30 cx31
                    obtain ⟨a32, ha32⟩ : ∃ a, a28 ++ onlyIf true (attrB 192 18 (b32 gs ++ b32 ga)) = a := ⟨_, rfl⟩
                    have E32 := Lib.hid ha32
                    have o32 : OB w31 5 q A31 n31 c31 a32 := by rw [← ha32]; exact o31
                    clear ha32
                    have HAL2 := Lib.hid (show attsB false (⟨o, path, nx, md, pf, at_, ha, gs, ga, comms, raws⟩ : At) = a32 by
                      rw [← E32.out, ← E28.out, E24.out, ← E21.out, ← E15.out, ← E13.out, ← E11.out, ← E9.out, ← E7.out, ← E5.out, ← E3.out]
                      unfold attsB
                      simp only [HBN.out, HBG.out]
                      simp [onlyIf])
                    go_wp2_with fail
                    go_ret2
                    exact ⟨A31, n31, c31, by rw [HP.out]; rfl, by rw [HP.out, HAL2.out]; exact o32.low (Nat.le_of_eq HQ.out), btr hBW.out bk31 hBW.out.size⟩
                · skip
                  have X_26 := hX.below bk26 hXl
                  have x1 : w26.cell? ⟨q, 1, none⟩ = some (.slice A n c) := X_26.cell 1
                  go_wp2_with fail
                  refine (HPT.out true _ (HPK.out _ bk26)).mono ?_
                  rintro _ w27 ⟨A27a, n27a, c27a, rfl, o27a, b27⟩
                  clear x1
                  have bk27 := btr bk26 b27 bk26.size
                  obtain ⟨A27, n27, c27, hA27⟩ : ∃ A n c, A = A26 ∧ n = n26 ∧ c = c26 := ⟨_, _, _, rfl, rfl, rfl⟩
                  obtain ⟨rfl, rfl, rfl⟩ := hA27
                  have o27 := o26.below b27
                  go_wp2_with fail
                  refine (refAttr04 A27 n27 c27 acc 192 17 A27a n27a c27a (putA true path) w27 o27.bs (o27a.bs) (by omega) (by omega) (by omega) (by omega) (by have := Kl24; omega) (by have := (HPL.out.2); omega)).mono ?_
                  rintro _ w29 ⟨A29, n29, c29, rfl, o29, b29⟩
                  have bk29 := btr bk27 b29 bk27.size
                  have o29 := o29.low (Nat.le_trans hqW bk27.size)
                  obtain ⟨a28, ha28⟩ : ∃ a, acc ++ onlyIf true (attrB 192 17 (putA true path)) = a := ⟨_, rfl⟩
                  have E28 := Lib.hid ha28
                  have Kl28 : a28.length ≤ 51000 := by rw [← ha28]; exact only_len Kl24 HPL.out.2
                  have o29 : OB w29 5 q A29 n29 c29 a28 := by rw [← ha28]; exact o29
                  clear ha28
                  have X_29 := hX.below bk29 hXl
                  have x7 : w29.cell? ⟨q, 7, none⟩ = some (.int .u32 gs) := X_29.cell 7
                  have x8 : w29.cell? ⟨q, 8, none⟩ = some (.int .u32 ga) := X_29.cell 8
                  cases bg
                  · skip
                    obtain ⟨a32, ha32⟩ : ∃ a, a28 ++ onlyIf false (attrB 192 18 (b32 gs ++ b32 ga)) = a := ⟨_, rfl⟩
                    have E32 := Lib.hid ha32
                    have o32 : OB w29 5 q A29 n29 c29 a32 := by rw [← ha32, only_no]; exact o29
                    clear ha32
                    have HAL2 := Lib.hid (show attsB false (⟨o, path, nx, md, pf, at_, ha, gs, ga, comms, raws⟩ : At) = a32 by
                      rw [← E32.out, ← E28.out, E24.out, ← E21.out, ← E15.out, ← E13.out, ← E11.out, ← E9.out, ← E7.out, ← E5.out, ← E3.out]
                      unfold attsB
                      simp only [HBN.out, HBG.out]
                      simp [onlyIf])
                    go_wp2_with fail
                    go_ret2
                    exact ⟨A29, n29, c29, by rw [HP.out]; rfl, by rw [HP.out, HAL2.out]; exact o32.low (Nat.le_of_eq HQ.out), btr hBW.out bk29 hBW.out.size⟩
                  · skip
                    have cx0 : w29.drew.cell? ⟨q, 7, none⟩ = some (.int .u32 gs) ∧ w29.drew.cell? ⟨q, 8, none⟩ = some (.int .u32 ga) := ⟨x7, x8⟩
                    have od : OB w29.drew 5 q A29 n29 c29 a28 := o29
                    have hqd : q < w29.drew.heap.size := X_29.lt
                    go_upto_region 40 with fail
                    clear x7 x8
                    rename_i hk
                    have HKK := Lib.hid hk
                    clear hk
                    refine wp_region_held_drew (S := (fun w' => w'.cell? ⟨q, 7, none⟩ = some (.int .u32 gs) ∧ w'.cell? ⟨q, 8, none⟩ = some (.int .u32 ga))) (by kernel_rfl) ?_ (fun hHeld => ?_)
                    · first | exact cx0 | exact cx39 | exact cx30 | exact cx31
                    refine wpAnyH_take (i := 0) (v := ?zz148v0) rfl (by kernel_rfl) (by kernel_rfl) (by kernel_rfl) (by intro _ _ _ h; exact h) (Or.inl ⟨by rfl, ?zz148hy0⟩) (by assumption) ?zz148rest0
                    case zz148hy0 => (intro w hSw; (try dsimp only at hSw); go_simp; try with_reducible rfl)
                    try simp only [Act.put, List.getElem_toArray, List.getElem_cons_succ, List.getElem_cons_zero, List.setIfInBounds_toArray, List.set_cons_zero, List.set_cons_succ]
                    refine wpAnyH_take (i := 1) (v := ?zz148v1) rfl (by kernel_rfl) (by kernel_rfl) (by kernel_rfl) (by intro _ _ _ h; exact h) (Or.inl ⟨by rfl, ?zz148hy1⟩) (by assumption) ?zz148rest1
                    case zz148hy1 => (intro w hSw; (try dsimp only at hSw); go_simp; try with_reducible rfl)
                    try simp only [Act.put, List.getElem_toArray, List.getElem_cons_succ, List.getElem_cons_zero, List.setIfInBounds_toArray, List.set_cons_zero, List.set_cons_succ]
                    refine wpAnyH_take (i := 2) (v := ?zz148v2) rfl (by kernel_rfl) (by kernel_rfl) (by kernel_rfl) (by intro _ _ _ h; exact h) (Or.inl ⟨by rfl, ?zz148hy2⟩) (by assumption) ?zz148rest2
                    case zz148hy2 => (intro w hSw; (try dsimp only at hSw); go_simp; try with_reducible rfl)
                    try simp only [Act.put, List.getElem_toArray, List.getElem_cons_succ, List.getElem_cons_zero, List.setIfInBounds_toArray, List.set_cons_zero, List.set_cons_succ]
                    refine wpAnyH_take (i := 4) (v := ?zz148v4) rfl (by kernel_rfl) (by kernel_rfl) (by kernel_rfl) (by intro _ _ _ h; exact h) (Or.inl ⟨by rfl, ?zz148hy4⟩) (by assumption) ?zz148rest4
                    case zz148hy4 => (intro w hSw; (try dsimp only at hSw); go_simp; try with_reducible rfl)
                    try simp only [Act.put, List.getElem_toArray, List.getElem_cons_succ, List.getElem_cons_zero, List.setIfInBounds_toArray, List.set_cons_zero, List.set_cons_succ]
                    refine wpAnyH_take (i := 5) (v := ?zz148v5) rfl (by kernel_rfl) (by kernel_rfl) (by kernel_rfl) (by intro _ _ _ h; exact h) (Or.inl ⟨by rfl, ?zz148hy5⟩) (by assumption) ?zz148rest5
                    case zz148hy5 => (intro w hSw; (try dsimp only at hSw); go_simp; try with_reducible rfl)
                    try simp only [Act.put, List.getElem_toArray, List.getElem_cons_succ, List.getElem_cons_zero, List.setIfInBounds_toArray, List.set_cons_zero, List.set_cons_succ]
                    refine wpAnyH_ready (rs := [3]) (by kernel_rfl) (by simp) ?_
                    refine AllReadyH.cons rfl (fun K hK => ?_) AllReadyH.nil
                    go_simp
                    go_wp2_with (go_at_call 76; refine (HP32.out gs _ HWG.out.1 HWG.out.2).mono ?_; rintro _ w39 ⟨A39, n39, c39, rfl, o39, b39⟩; have cx39 := And.intro ((b39.cell (p := ⟨q, 7, none⟩) hqd).trans cx0.1) ((b39.cell (p := ⟨q, 8, none⟩) hqd).trans cx0.2); have od39 := od.below b39; have hq39 : q < w39.heap.size := Nat.lt_of_lt_of_le hqd b39.size)
                    refine hK.out _ _ ?_ (fun hHeld => ?_)
                    · try dsimp only
                      first | exact cx0 | exact cx39 | exact cx30 | exact cx31
                    clear hK K
                    refine wpAnyH_ready (rs := [6]) (by kernel_rfl) (by simp) ?_
                    refine AllReadyH.cons rfl (fun K hK => ?_) AllReadyH.nil
                    go_simp
                    go_wp2_with (go_at_call 76; refine (ref01Put32 A39 n39 c39 (b32 gs) ga _ o39.bs (by rw [b32_len]; omega) HWA.out.1 HWA.out.2).mono ?_; rintro _ w30 ⟨A30, n30, c30, rfl, o30, b30⟩; have cx30 := And.intro ((b30.cell (p := ⟨q, 7, none⟩) hq39).trans cx39.1) ((b30.cell (p := ⟨q, 8, none⟩) hq39).trans cx39.2); have od30 := od39.below b30; have hq30 : q < w30.heap.size := Nat.lt_of_lt_of_le hq39 b30.size)
                    refine hK.out _ _ ?_ (fun hHeld => ?_)
                    · try dsimp only
                      first | exact cx0 | exact cx39 | exact cx30 | exact cx31
                    clear hK K
                    refine wpAnyH_ready (rs := [7]) (by kernel_rfl) (by simp) ?_
                    refine AllReadyH.cons rfl (fun K hK => ?_) AllReadyH.nil
                    go_simp
                    go_wp2_with (go_at_call 98; refine (refAttr04 A29 n29 c29 a28 192 18 A30 n30 c30 (b32 gs ++ b32 ga) _ od30.bs o30.bs (by omega) (by omega) (by omega) (by omega) (by have := Kl28; omega) (by rw [List.length_append, b32_len, b32_len]; omega)).mono ?_; rintro _ w31 ⟨A31, n31, c31, rfl, o31, b31⟩; have cx31 := And.intro ((b31.cell (p := ⟨q, 7, none⟩) hq30).trans cx30.1) ((b31.cell (p := ⟨q, 8, none⟩) hq30).trans cx30.2))
                    refine hK.out _ _ ?_ (fun hHeld => ?_)
                    · try dsimp only
                      first | exact cx0 | exact cx39 | exact cx30 | exact cx31
                    clear hK K
                    refine wpAnyH_ready (rs := [8]) (by kernel_rfl) (by simp) ?_
                    refine AllReadyH.cons rfl (fun K hK => ?_) AllReadyH.nil
                    go_simp
                    go_wp2_with (fail)
                    refine hK.out _ _ ?_ (fun hHeld => ?_)
                    · try dsimp only
                      first | exact cx0 | exact cx39 | exact cx30 | exact cx31
                    clear hK K
                    refine wpAnyH_done (by kernel_rfl) ?_ _
                    refine HKK.out _ _ ?_
                    have bk31 := btr bk29 ((((Below.refl w29.heap.size w29).drew).trans b39).trans ((b30.mono (b39.size)).trans (b31.mono (Nat.le_trans b39.size b30.size)))) bk29.size
                    have o31 := o31.low (Nat.le_trans hqW (Nat.le_trans bk29.size (Nat.le_trans b39.size b30.size)))
                    clear hHeld cx0 cx39 cx30 cx31
                    obtain ⟨a32, ha32⟩ : ∃ a, a28 ++ onlyIf true (attrB 192 18 (b32 gs ++ b32 ga)) = a := ⟨_, rfl⟩
                    have E32 := Lib.hid ha32
                    have o32 : OB w31 5 q A31 n31 c31 a32 := by rw [← ha32]; exact o31
                    clear ha32
                    have HAL2 := Lib.hid (show attsB false (⟨o, path, nx, md, pf, at_, ha, gs, ga, comms, raws⟩ : At) = a32 by
                      rw [← E32.out, ← E28.out, E24.out, ← E21.out, ← E15.out, ← E13.out, ← E11.out, ← E9.out, ← E7.out, ← E5.out, ← E3.out]
                      unfold attsB
                      simp only [HBN.out, HBG.out]
                      simp [onlyIf])
                    go_wp2_with fail
                    go_ret2
                    exact ⟨A31, n31, c31, by rw [HP.out]; rfl, by rw [HP.out, HAL2.out]; exact o32.low (Nat.le_of_eq HQ.out), btr hBW.out bk31 hBW.out.size⟩
set_option maxHeartbeats 16000000 in
set_option maxRecDepth 100000 in
theorem refPut04_wide (o : Int) (A : Option Addr) (n c : Nat) (path : List Seg) (nx md pf : Int) (at_ ha : Bool) (gs ga : Int) (A1 : Option Addr) (n1 c1 : Nat) (comms : List Int) (A2 : Option Addr) (n2 c2 : Nat) (raws : List RawV) (w : World) (hp : DL rSeg 2 w (Lo w) A n path) (hc : NF w (Lo w) A1 n1 comms) (hd : DL rRaw 3 w (Lo w) A2 n2 raws) (hn : n ≤ 12) (hs : Hid (sumN path ≤ big32)) (hn2 : n2 ≤ 100000) (hw : Hid (0 ≤ nx ∧ nx < 4294967296 ∧ 0 ≤ gs ∧ gs < 4294967296 ∧ 0 ≤ ga ∧ ga < 4294967296)) :
    Calls Tryd.prog 59 #[.agg #[.int .i64 o, .slice A n c, .int .u32 nx, .int .i64 md, .int .i64 pf, .bool at_, .bool ha, .int .u32 gs, .int .u32 ga, .slice A1 n1 c1, .slice A2 n2 c2], .bool true] w (RetPE w (putAt true (⟨o, path, nx, md, pf, at_, ha, gs, ga, comms, raws⟩ : At))) := by
  have HN := Lib.hid hd.len
  have HC := Lib.hid hc.1
  obtain ⟨rt, hrt⟩ : ∃ rt, rightAt (⟨o, path, nx, md, pf, at_, ha, gs, ga, comms, raws⟩ : At) = rt := ⟨_, rfl⟩
  have HR := Lib.hid (show ∀ w', DL rSeg 2 w' (Lo w') A n path → DL rRaw 3 w' (Lo w') A2 n2 raws → Calls Tryd.prog 49 #[.agg #[.int .i64 o, .slice A n c, .int .u32 nx, .int .i64 md, .int .i64 pf, .bool at_, .bool ha, .int .u32 gs, .int .u32 ga, .slice A1 n1 c1, .slice A2 n2 c2]] w' fun en w'' => en = .returned (.bool rt) ∧ Below w'.heap.size w' w'' from fun w' h1 h2 => by rw [← hrt]; exact refRight04 o A n c path nx md pf at_ ha gs ga A1 n1 c1 comms A2 n2 c2 raws w' h1 hc.1 h2 (by omega) hn2)
  have HRT := Lib.hid hrt
  obtain ⟨W, hW, hX, bW⟩ := box1c w #[.int .i64 o, .slice A n c, .int .u32 nx, .int .i64 md, .int .i64 pf, .bool at_, .bool ha, .int .u32 gs, .int .u32 ga, .slice A1 n1 c1, .slice A2 n2 c2] 54
  have hpW := hp.keep rSeg_ok (Kp.call bW)
  have hdW := hd.keep rRaw_ok (Kp.call bW)
  have hcW := hc.keep (Kp.call bW)
  have hXl := hX.lt
  have hqW := bW.size
  obtain ⟨q, hq⟩ : ∃ q, w.heap.size = q := ⟨_, rfl⟩
  have HQ := Lib.hid hq
  go_enter Tryd.func59, Tryd.ntmps59
  go_upto_region 1 with fail
  try rw [hW]
  rw [hq] at hX hXl hqW
  try rw [hq]
  have hBW := Lib.hid bW
  clear hW hq hrt bW
  have y0 : W.cell? ⟨q, 0, none⟩ = some (.int .i64 o) := hX.cell 0
  have y1 : W.cell? ⟨q, 1, none⟩ = some (.slice A n c) := hX.cell 1
  have y2 : W.cell? ⟨q, 2, none⟩ = some (.int .u32 nx) := hX.cell 2
  have y3 : W.cell? ⟨q, 3, none⟩ = some (.int .i64 md) := hX.cell 3
  have y4 : W.cell? ⟨q, 4, none⟩ = some (.int .i64 pf) := hX.cell 4
  have y5 : W.cell? ⟨q, 5, none⟩ = some (.bool at_) := hX.cell 5
  have y6 : W.cell? ⟨q, 6, none⟩ = some (.bool ha) := hX.cell 6
  have y7 : W.cell? ⟨q, 7, none⟩ = some (.int .u32 gs) := hX.cell 7
  have y8 : W.cell? ⟨q, 8, none⟩ = some (.int .u32 ga) := hX.cell 8
  have y9 : W.cell? ⟨q, 9, none⟩ = some (.slice A1 n1 c1) := hX.cell 9
  have y10 : W.cell? ⟨q, 10, none⟩ = some (.slice A2 n2 c2) := hX.cell 10
  go_wp2_with fail
  refine (HR.out _ hpW hdW).mono ?_
  rintro _ w1 ⟨rfl, bk1⟩
  clear y0 y1 y2 y3 y4 y5 y6 y7 y8 y9 y10
  cases rt
  · have HP := Lib.hid (show putAt true (⟨o, path, nx, md, pf, at_, ha, gs, ga, comms, raws⟩ : At) = ([], 1) by unfold putAt; rw [HRT.out]; rfl)
    go_wp2_with fail
    go_ret2
    exact ⟨none, 0, 0, by rw [HP.out]; rfl, by rw [HP.out]; exact OB.nil_, btr hBW.out bk1 hBW.out.size⟩
  have HRG := Lib.hid (rightAt_of HRT.out)
  have HP := Lib.hid (show putAt true (⟨o, path, nx, md, pf, at_, ha, gs, ga, comms, raws⟩ : At) = (attsB true (⟨o, path, nx, md, pf, at_, ha, gs, ga, comms, raws⟩ : At), 0) by unfold putAt; rw [HRT.out]; rfl)
  have HPL := Lib.hid (show (putA true path).length ≤ 2000 ∧ (putA true path).length ≤ 2000 by
    have h1 := rightA_of HRG.out.2.1
    have h2 := putA_len true path
    have h3 := putA_len true path
    simp only at h1
    omega)
  have HNB := Lib.hid (show (-1 ≤ md ∧ md ≤ 4294967295) ∧ (-1 ≤ pf ∧ pf ≤ 4294967295) from ⟨of_decide_eq_true HRG.out.2.2.1, of_decide_eq_true HRG.out.2.2.2.1⟩)
  have HPT := Lib.hid (show ∀ (bb : Bool) w', DL rSeg 2 w' (Lo w') A n path → Calls Tryd.prog 40 #[.slice A n c, .bool bb] w' (RetB w' 5 (putA bb path)) from fun bb w' h => refPut03 A n c path bb w' h hn hs)
  have HPK := Lib.hid (show ∀ w', Below W.heap.size W w' → DL rSeg 2 w' (Lo w') A n path from fun w' h => hpW.keep rSeg_ok (Kp.call h))
  have HDK := Lib.hid (show ∀ w', Below W.heap.size W w' → DL rRaw 3 w' (Lo w') A2 n2 raws from fun w' h => hdW.keep rRaw_ok (Kp.call h))
  have HCK := Lib.hid (show ∀ w', Below W.heap.size W w' → NF w' (Lo w') A1 n1 comms from fun w' h => hcW.keep (Kp.call h))
  have HP32 := Lib.hid (show ∀ (y : Int) (w' : World), 0 ≤ y → y < 4294967296 → Calls Tryd.prog 76 #[.slice none 0 0, .int .u32 y] w' (RetB w' 5 (b32 y)) from fun y w' h0 h1 => by have := ref01Put32 none 0 0 [] y w' ⟨rfl, Reads.none_⟩ (by simp) h0 h1; rwa [List.nil_append] at this)
  have ho0 : 0 ≤ o ∧ o ≤ 2 := HRG.out.1
  obtain ⟨ho0, ho2⟩ := ho0
  have wo : IntKind.u8.wrap o = o := by rw [IntKind.wrap_u8]; omega
  obtain ⟨hw0, hw1, hw2, hw3, hw4, hw5⟩ := hw.out
  have HWN := Lib.hid (And.intro hw0 hw1)
  have HWG := Lib.hid (And.intro hw2 hw3)
  have HWA := Lib.hid (And.intro hw4 hw5)
  clear hw0 hw1 hw2 hw3 hw4 hw5 hpW hdW hcW
  have X_1 := hX.below bk1 hXl
  have x0 : w1.cell? ⟨q, 0, none⟩ = some (.int .i64 o) := X_1.cell 0
  obtain ⟨w2, hw2, hB2, b2⟩ := box1c w1 #[.int .u8 o] 5
  have bs2 : BS w2 w2.heap.size (some ⟨w1.heap.size, 0, none⟩) 1 [ub o] := by rw [← hw2]; exact (BS.one w1 5 o ho0 (by omega)).more (by simp)
  have bk2 := btr bk1 b2 bk1.size
  go_wp2_with fail
  try rw [hw2]
  refine (refAttr04 none 0 0 [] 64 1 (some ⟨w1.heap.size, 0, none⟩) 1 1 [ub o] w2 ⟨rfl, Reads.none_⟩ bs2 (by omega) (by omega) (by omega) (by omega) (by simp) (by simp)).mono ?_
  rintro _ w3 ⟨A3, n3, c3, rfl, o3, b3⟩
  have bk3 := btr bk2 b3 bk2.size
  have o3 := o3.low (Nat.le_trans hqW bk2.size)
  rw [List.nil_append] at o3
  clear x0 hw2 hB2 bs2 b2 b3
  obtain ⟨a3, ha3⟩ : ∃ a, attrB 64 1 [ub o] = a := ⟨_, rfl⟩
  have Kl3 : a3.length ≤ 3000 := by rw [← ha3]; exact by have := attrB_len 64 1 [ub o]; simp at this; omega
  have E3 := Lib.hid ha3
  rw [ha3] at o3
  clear ha3
  have X_3 := hX.below bk3 hXl
  have x1 : w3.cell? ⟨q, 1, none⟩ = some (.slice A n c) := X_3.cell 1
  go_wp2_with fail
  refine (HPT.out true _ (HPK.out _ bk3)).mono ?_
  rintro _ w4 ⟨A40, n40, c40, rfl, o40, b4⟩
  have bk4 := btr bk3 b4 bk3.size
  obtain ⟨A4, n4, c4, hA4⟩ : ∃ A n c, A = A3 ∧ n = n3 ∧ c = c3 := ⟨_, _, _, rfl, rfl, rfl⟩
  obtain ⟨rfl, rfl, rfl⟩ := hA4
  have o4 := o3.below b4
  go_wp2_with fail
  refine (refAttr04 A4 n4 c4 a3 64 2 A40 n40 c40 (putA true path) w4 o4.bs (o40.bs) (by omega) (by omega) (by omega) (by omega) (by have := Kl3; omega) (by have := (HPL.out.1); omega)).mono ?_
  rintro _ w5 ⟨A5, n5, c5, rfl, o5, b5⟩
  have bk5 := btr bk4 b5 bk4.size
  have o5 := o5.low (Nat.le_trans hqW bk4.size)
  obtain ⟨a5, ha5⟩ : ∃ a, a3 ++ attrB 64 2 (putA true path) = a := ⟨_, rfl⟩
  have Kl5 : a5.length ≤ 6000 := by rw [← ha5]; exact by have h1 := attrB_len 64 2 (putA true path); have h2 := HPL.out.1; have h3 := Kl3; rw [List.length_append]; omega
  have E5 := Lib.hid ha5
  rw [ha5] at o5
  clear ha5 x1 o40 o4
  have X_5 := hX.below bk5 hXl
  have x2 : w5.cell? ⟨q, 2, none⟩ = some (.int .u32 nx) := X_5.cell 2
  go_wp2_with fail
  refine (HP32.out nx _ HWN.out.1 HWN.out.2).mono ?_
  rintro _ w6 ⟨A60, n60, c60, rfl, o60, b6⟩
  have bk6 := btr bk5 b6 bk5.size
  obtain ⟨A6, n6, c6, hA6⟩ : ∃ A n c, A = A5 ∧ n = n5 ∧ c = c5 := ⟨_, _, _, rfl, rfl, rfl⟩
  obtain ⟨rfl, rfl, rfl⟩ := hA6
  have o6 := o5.below b6
  go_wp2_with fail
  refine (refAttr04 A6 n6 c6 a5 64 3 A60 n60 c60 (b32 nx) w6 o6.bs (o60.bs) (by omega) (by omega) (by omega) (by omega) (by have := Kl5; omega) (by have := (show (b32 nx).length ≤ 2000 by rw [b32_len]; omega); omega)).mono ?_
  rintro _ w7 ⟨A7, n7, c7, rfl, o7, b7⟩
  have bk7 := btr bk6 b7 bk6.size
  have o7 := o7.low (Nat.le_trans hqW bk6.size)
  obtain ⟨a7, ha7⟩ : ∃ a, a5 ++ attrB 64 3 (b32 nx) = a := ⟨_, rfl⟩
  have Kl7 : a7.length ≤ 9000 := by rw [← ha7]; exact by have h1 := attrB_len 64 3 (b32 nx); have h2 := b32_len nx; have h3 := Kl5; rw [List.length_append]; omega
  have E7 := Lib.hid ha7
  rw [ha7] at o7
  clear ha7 x2 o60 o6
  have X_7 := hX.below bk7 hXl
  have x3 : w7.cell? ⟨q, 3, none⟩ = some (.int .i64 md) := X_7.cell 3
  obtain ⟨a9, ha9⟩ : ∃ a, a7 ++ onlyIf (decide (0 ≤ md)) (attrB 128 4 (b32 (md % 4294967296))) = a := ⟨_, rfl⟩
  have Kl9 : a9.length ≤ 12000 := by rw [← ha9]; exact only_len Kl7 (by rw [b32_len]; omega)
  have E9 := Lib.hid ha9
  go_upto_if 35 with fail
  go_cut [6] (fun s6 wx => ∃ (A : Option Addr) (n c : Nat), s6 = .slice A n c ∧ OB wx 5 q A n c a9 ∧ Below W.heap.size W wx)
  case first =>
    by_cases h0 : 0 ≤ md
    case neg =>
      have t0 : decide (0 ≤ md) = false := decide_eq_false h0
      go_wp2_with fail
      go_meet
      exact ⟨A7, n7, c7, rfl, by rw [← ha9, t0]; simpa [onlyIf] using o7, bk7⟩
    have t0 : decide (0 ≤ md) = true := decide_eq_true h0
    have hmb : md ≤ 4294967295 := HNB.out.1.2
    have hmw : IntKind.u32.wrap md = md := by rw [IntKind.wrap_u32]; omega
    have hmm : md % 4294967296 = md := by omega
    have HM := Lib.hid (And.intro h0 (show md < 4294967296 by omega))
    clear h0 hmb
    go_wp2_with fail
    refine (HP32.out md _ HM.out.1 HM.out.2).mono ?_
    rintro _ w70 ⟨A71, n71, c71, rfl, o71, b70⟩
    have bk70 := btr bk7 b70 bk7.size
    obtain ⟨A70, n70, c70, hA70⟩ : ∃ A n c, A = A7 ∧ n = n7 ∧ c = c7 := ⟨_, _, _, rfl, rfl, rfl⟩
    obtain ⟨rfl, rfl, rfl⟩ := hA70
    have o70 := o7.below b70
    go_wp2_with fail
    refine (refAttr04 A70 n70 c70 a7 128 4 A71 n71 c71 (b32 md) w70 o70.bs (o71.bs) (by omega) (by omega) (by omega) (by omega) (by have := Kl7; omega) (by have := (show (b32 md).length ≤ 2000 by rw [b32_len]; omega); omega)).mono ?_
    rintro _ w72 ⟨A72, n72, c72, rfl, o72, b72⟩
    have bk72 := btr bk70 b72 bk70.size
    have o72 := o72.low (Nat.le_trans hqW bk70.size)
    go_wp2_with fail
    go_meet
    exact ⟨A72, n72, c72, rfl, by rw [← ha9, t0, hmm]; exact o72, bk72⟩
  case rest =>
    obtain ⟨A9, n9, c9, rfl, o9, bk9⟩ := hcut
    obtain ⟨w9, hw9⟩ : ∃ x, x = wc := ⟨_, rfl⟩
    subst hw9
    clear ha9
    have X_9 := hX.below bk9 hXl
    have x4 : w9.cell? ⟨q, 4, none⟩ = some (.int .i64 pf) := X_9.cell 4
    obtain ⟨a11, ha11⟩ : ∃ a, a9 ++ onlyIf (decide (0 ≤ pf)) (attrB 64 5 (b32 (pf % 4294967296))) = a := ⟨_, rfl⟩
    have Kl11 : a11.length ≤ 15000 := by rw [← ha11]; exact only_len Kl9 (by rw [b32_len]; omega)
    have E11 := Lib.hid ha11
    go_upto_if 44 with fail
    go_cut [6] (fun s6 wx => ∃ (A : Option Addr) (n c : Nat), s6 = .slice A n c ∧ OB wx 5 q A n c a11 ∧ Below W.heap.size W wx)
    case first =>
      by_cases h0 : 0 ≤ pf
      case neg =>
        have t0 : decide (0 ≤ pf) = false := decide_eq_false h0
        go_wp2_with fail
        go_meet
        exact ⟨A9, n9, c9, rfl, by rw [← ha11, t0]; simpa [onlyIf] using o9, bk9⟩
      have t0 : decide (0 ≤ pf) = true := decide_eq_true h0
      have hmb : pf ≤ 4294967295 := HNB.out.2.2
      have hmw : IntKind.u32.wrap pf = pf := by rw [IntKind.wrap_u32]; omega
      have hmm : pf % 4294967296 = pf := by omega
      have HM := Lib.hid (And.intro h0 (show pf < 4294967296 by omega))
      clear h0 hmb
      go_wp2_with fail
      refine (HP32.out pf _ HM.out.1 HM.out.2).mono ?_
      rintro _ w90 ⟨A91, n91, c91, rfl, o91, b90⟩
      have bk90 := btr bk9 b90 bk9.size
      obtain ⟨A90, n90, c90, hA90⟩ : ∃ A n c, A = A9 ∧ n = n9 ∧ c = c9 := ⟨_, _, _, rfl, rfl, rfl⟩
      obtain ⟨rfl, rfl, rfl⟩ := hA90
      have o90 := o9.below b90
      go_wp2_with fail
      refine (refAttr04 A90 n90 c90 a9 64 5 A91 n91 c91 (b32 pf) w90 o90.bs (o91.bs) (by omega) (by omega) (by omega) (by omega) (by have := Kl9; omega) (by have := (show (b32 pf).length ≤ 2000 by rw [b32_len]; omega); omega)).mono ?_
      rintro _ w92 ⟨A92, n92, c92, rfl, o92, b92⟩
      have bk92 := btr bk90 b92 bk90.size
      have o92 := o92.low (Nat.le_trans hqW bk90.size)
      go_wp2_with fail
      go_meet
      exact ⟨A92, n92, c92, rfl, by rw [← ha11, t0, hmm]; exact o92, bk92⟩
    case rest =>
      obtain ⟨A11, n11, c11, rfl, o11, bk11⟩ := hcut
      obtain ⟨w11, hw11⟩ : ∃ x, x = wc := ⟨_, rfl⟩
      subst hw11
      clear ha11
      have X_11 := hX.below bk11 hXl
      have x5 : w11.cell? ⟨q, 5, none⟩ = some (.bool at_) := X_11.cell 5
      obtain ⟨a13, ha13⟩ : ∃ a, a11 ++ onlyIf at_ (attrB 64 6 ([])) = a := ⟨_, rfl⟩
      have Kl13 : a13.length ≤ 18000 := by rw [← ha13]; exact only_len Kl11 (by simp)
      have E13 := Lib.hid ha13
      go_upto_if 52 with fail
      go_cut [6] (fun s6 wx => ∃ (A : Option Addr) (n c : Nat), s6 = .slice A n c ∧ OB wx 5 q A n c a13 ∧ Below W.heap.size W wx)
      case first =>
        cases at_
        · skip
          go_wp2_with fail
          go_meet
          exact ⟨A11, n11, c11, rfl, by rw [← ha13]; simpa [onlyIf] using o11, bk11⟩
        · skip
          go_wp2_with fail
          refine (refAttr04 A11 n11 c11 a11 64 6 none 0 0 ([]) w11 o11.bs (⟨rfl, Reads.none_⟩) (by omega) (by omega) (by omega) (by omega) (by have := Kl11; omega) (by have := (show ([] : List UInt8).length ≤ 2000 by simp); omega)).mono ?_
          rintro _ w12 ⟨A12, n12, c12, rfl, o12, b12⟩
          have bk12 := btr bk11 b12 bk11.size
          have o12 := o12.low (Nat.le_trans hqW bk11.size)
          go_wp2_with fail
          go_meet
          exact ⟨A12, n12, c12, rfl, by rw [← ha13]; exact o12, bk12⟩
      case rest =>
        obtain ⟨A13, n13, c13, rfl, o13, bk13⟩ := hcut
        obtain ⟨w13, hw13⟩ : ∃ x, x = wc := ⟨_, rfl⟩
        subst hw13
        clear ha13
        have X_13 := hX.below bk13 hXl
        have x6 : w13.cell? ⟨q, 6, none⟩ = some (.bool ha) := X_13.cell 6
        obtain ⟨a15, ha15⟩ : ∃ a, a13 ++ onlyIf ha (attrB 192 7 (asB true gs ++ b32 ga)) = a := ⟨_, rfl⟩
        have Kl15 : a15.length ≤ 21000 := by rw [← ha15]; exact only_len Kl13 (by rw [List.length_append, b32_len]; have := asB_len true gs; omega)
        have E15 := Lib.hid ha15
        go_upto_if 56 with fail
        go_cut [6] (fun s6 wx => ∃ (A : Option Addr) (n c : Nat), s6 = .slice A n c ∧ OB wx 5 q A n c a15 ∧ Below W.heap.size W wx)
        case first =>
          cases ha
          · skip
            go_wp2_with fail
            go_meet
            exact ⟨A13, n13, c13, rfl, by rw [← ha15]; simpa [onlyIf] using o13, bk13⟩
          · skip
            have X_13 := hX.below bk13 hXl
            have x7 : w13.cell? ⟨q, 7, none⟩ = some (.int .u32 gs) := X_13.cell 7
            go_wp2_with fail
            refine (HP32.out gs _ HWG.out.1 HWG.out.2).mono ?_
            rintro _ w14 ⟨A14a, n14a, c14a, rfl, o14x, b14⟩
            have o14a : OB w14 5 w13.heap.size A14a n14a c14a (asB true gs) := o14x
            clear x7
            have bk14 := btr bk13 b14 bk13.size
            obtain ⟨A14, n14, c14, hA14⟩ : ∃ A n c, A = A13 ∧ n = n13 ∧ c = c13 := ⟨_, _, _, rfl, rfl, rfl⟩
            obtain ⟨rfl, rfl, rfl⟩ := hA14
            have o14 := o13.below b14
            have X_14 := hX.below bk14 hXl
            have x8 : w14.cell? ⟨q, 8, none⟩ = some (.int .u32 ga) := X_14.cell 8
            go_wp2_with fail
            refine (ref01Put32 A14a n14a c14a (asB true gs) ga _ o14a.bs (by have := asB_len true gs; omega) HWA.out.1 HWA.out.2).mono ?_
            rintro _ w16 ⟨A16a, n16a, c16a, rfl, o16a, b16⟩
            clear x8
            have bk16 := btr bk14 b16 bk14.size
            obtain ⟨A16, n16, c16, hA16⟩ : ∃ A n c, A = A14 ∧ n = n14 ∧ c = c14 := ⟨_, _, _, rfl, rfl, rfl⟩
            obtain ⟨rfl, rfl, rfl⟩ := hA16
            have o16 := o14.below b16
            go_wp2_with fail
            refine (refAttr04 A16 n16 c16 a13 192 7 A16a n16a c16a (asB true gs ++ b32 ga) w16 o16.bs (o16a.bs) (by omega) (by omega) (by omega) (by omega) (by have := Kl13; omega) (by have := (show (asB true gs ++ b32 ga).length ≤ 2000 by rw [List.length_append, b32_len]; have := asB_len true gs; omega); omega)).mono ?_
            rintro _ w17 ⟨A17, n17, c17, rfl, o17, b17⟩
            have bk17 := btr bk16 b17 bk16.size
            have o17 := o17.low (Nat.le_trans hqW bk16.size)
            go_wp2_with fail
            go_meet
            exact ⟨A17, n17, c17, rfl, by rw [← ha15]; exact o17, bk17⟩
        case rest =>
          obtain ⟨A15, n15, c15, rfl, o15, bk15⟩ := hcut
          obtain ⟨w15, hw15⟩ : ∃ x, x = wc := ⟨_, rfl⟩
          subst hw15
          clear ha15
          have HCL := Lib.hid (show (comms.flatMap b32).length ≤ 2000 ∧ comms.length ≤ 32 by have h1 := b32_flat comms; have h2 : comms.length ≤ 32 := HRG.out.2.2.2.2.2.1; omega)
          have X_15 := hX.below bk15 hXl
          have x9 : w15.cell? ⟨q, 9, none⟩ = some (.slice A1 n1 c1) := X_15.cell 9
          obtain ⟨dc, hdc⟩ : ∃ d, decide (0 < n1) = d := ⟨_, rfl⟩
          have hdc' : decide ((0 : Int) < (n1 : Int)) = dc := by rw [← hdc]; exact decide_eq_decide.2 (by omega)
          have HDC := Lib.hid hdc
          obtain ⟨a21, ha21⟩ : ∃ a, a15 ++ onlyIf (decide (0 < comms.length)) (attrB 192 8 (comms.flatMap b32)) = a := ⟨_, rfl⟩
          have Kl21 : a21.length ≤ 24000 := by rw [← ha21]; exact only_len Kl15 (HCL.out.1)
          have E21 := Lib.hid ha21
          go_upto_if 81 with fail
          go_cut [6] (fun s6 wx => ∃ (A : Option Addr) (n c : Nat), s6 = .slice A n c ∧ OB wx 5 q A n c a21 ∧ Below W.heap.size W wx)
          case first =>
            cases dc
            case false =>
              have HD := Lib.hid (show decide (0 < comms.length) = false by rw [← HC.out]; exact HDC.out)
              clear hdc hdc'
              go_wp2_with fail
              go_meet
              exact ⟨A15, n15, c15, rfl, by rw [← ha21, HD.out]; simpa [onlyIf] using o15, bk15⟩
            have HD := Lib.hid (show decide (0 < comms.length) = true by rw [← HC.out]; exact HDC.out)
            clear hdc hdc'
            have hzq := Lib.hid (show q ≤ w15.heap.size from Nat.le_trans hqW bk15.size)
            go_wp2_with fail
            go_loopw [8, 9] (fun x i wr => ∃ (j : Nat) (A5 : Option Addr) (n5 c5 : Nat), j ≤ n1 ∧ i = .int .i64 j ∧ x = .slice A5 n5 c5 ∧ OB wr 5 w15.heap.size A5 n5 c5 ((comms.take j).flatMap b32) ∧ Below w15.heap.size w15 wr) (fun _ i _ => n1 - (intOf i).toNat)
            case atStart => exact ⟨0, none, 0, 0, by omega, rfl, rfl, OB.nil_, Below.refl _ _⟩
            case round =>
              obtain ⟨j, A5, n5, c5, hj, rfl, rfl, o5, b16⟩ := hrel
              have bkr := btr bk15 b16 bk15.size
              have X_r := hX.below bkr hXl
              have x9 : wr.cell? ⟨q, 9, none⟩ = some (.slice A1 n1 c1) := X_r.cell 9
              by_cases hlt : j < n1
              case pos =>
                have d1 : decide ((j : Int) < n1) = true := decide_eq_true (by omega)
                have d1' : decide (j < n1) = true := decide_eq_true hlt
                have hlti : (j : Int) < n1 := by omega
                have hj0 : (0 : Int) ≤ (j : Int) := by omega
                obtain ⟨y, hy⟩ : ∃ y, comms[j]? = some y := ⟨_, List.getElem?_eq_getElem (by have := HC.out; omega)⟩
                have hcr := HCK.out _ bkr
                obtain ⟨b, off, rfl, hbl, k0⟩ := hcr.at_ hy
                obtain ⟨hy0, hy1⟩ := hcr.wf_ hy
                have HY := Lib.hid (b32_take hy)
                have HYB := Lib.hid (show 0 ≤ y ∧ y < 4294967296 by omega)
                have HLN := Lib.hid (show ((comms.take j).flatMap b32).length ≤ 100000 by have h1 := b32_flat (comms.take j); have h2 := HCL.out.2; rw [List.length_take] at h1; omega)
                have wj : IntKind.i64.wrap ((j : Int) + 1) = (j : Int) + 1 := IntWalk.i64_in _ ⟨by omega, by have h1 := HCL.out.2; have h2 := HC.out; omega⟩
                clear hy hy0 hy1 hcr
                go_wp2_with fail
                refine (ref01Put32 A5 n5 c5 _ y _ o5.bs (by have := HLN.out; omega) HYB.out.1 HYB.out.2).mono ?_
                rintro _ w6 ⟨A6, n6, c6, rfl, o6, b6⟩
                go_wp2_with fail
                go_roundw
                case rel => exact ⟨j + 1, A6, n6, c6, by omega, by go_num, rfl, by rw [HY.out]; exact o6.low b16.size, btr b16 b6 b16.size⟩
                case measure => simp [intOf]; omega
              have d1 : decide ((j : Int) < n1) = false := decide_eq_false (by omega)
              have d1' : decide (j < n1) = false := decide_eq_false hlt
              have oC : OB wr 5 w15.heap.size A5 n5 c5 (comms.flatMap b32) := by rw [List.take_of_length_le (by have := HC.out; omega)] at o5; exact o5
              obtain ⟨w16, hw16⟩ : ∃ x, x = wr := ⟨_, rfl⟩
              subst hw16
              clear hlt o5 hj bkr X_r
              have bk16 := btr bk15 b16 bk15.size
              obtain ⟨A16, n16, c16, hA16⟩ : ∃ A n c, A = A15 ∧ n = n15 ∧ c = c15 := ⟨_, _, _, rfl, rfl, rfl⟩
              obtain ⟨rfl, rfl, rfl⟩ := hA16
              have o16 := o15.below b16
              go_wp2_with fail
              refine (refAttr04 A16 n16 c16 a15 192 8 A5 n5 c5 (comms.flatMap b32) w16 o16.bs (oC.bs) (by omega) (by omega) (by omega) (by omega) (by have := Kl15; omega) (by have := (HCL.out.1); omega)).mono ?_
              rintro _ w17 ⟨A17, n17, c17, rfl, o17, b17⟩
              have bk17 := btr bk16 b17 bk16.size
              have o17 := o17.low (Nat.le_trans hqW bk16.size)
              go_wp2_with fail
              go_meet
              exact ⟨A17, n17, c17, rfl, by rw [← ha21, HD.out]; exact o17, bk17⟩
          case rest =>
            obtain ⟨A21, n21, c21, rfl, o21, bk21⟩ := hcut
            obtain ⟨w21, hw21⟩ : ∃ x, x = wc := ⟨_, rfl⟩
            subst hw21
            clear ha21
            go_wp2_with fail
            go_loopw [6, 10] (fun x i wr => ∃ (j : Nat) (A0 : Option Addr) (n0 c0 : Nat) (acc : List UInt8), j ≤ n2 ∧ i = .int .i64 j ∧ x = .slice A0 n0 c0 ∧ OB wr 5 q A0 n0 c0 acc ∧ Below W.heap.size W wr ∧ Hid (acc = a21 ++ (raws.take j).flatMap (fun x => attrB x.1 x.2.1 x.2.2)) ∧ Hid (acc.length ≤ 24000 + 3000 * j)) (fun _ i _ => n2 - (intOf i).toNat)
            case atStart => exact ⟨0, A21, n21, c21, a21, by omega, rfl, rfl, o21, bk21, Lib.hid (by simp), Lib.hid (by have := Kl21; omega)⟩
            case round =>
              obtain ⟨j, A0, n0, c0, acc, hj, rfl, rfl, o0, bkr, HAC, HAL⟩ := hrel
              have X_r := hX.below bkr hXl
              have x10 : wr.cell? ⟨q, 10, none⟩ = some (.slice A2 n2 c2) := X_r.cell 10
              by_cases hlt : j < n2
              case pos =>
                have d1 : decide ((j : Int) < n2) = true := decide_eq_true (by omega)
                have d1' : decide (j < n2) = true := decide_eq_true hlt
                have hlti : (j : Int) < n2 := by omega
                have hj0 : (0 : Int) ≤ (j : Int) := by omega
                have hj8 : n2 ≤ 8 := by have h1 : raws.length ≤ 8 := HRG.out.2.2.2.2.2.2.2; have := HN.out; omega
                obtain ⟨x, hx⟩ := getL HN.out hlt
                have hdr := HDK.out wr bkr
                obtain ⟨b, off, A6, n6, c6, rfl, hbl, k0, k1, k2, hbf, hnc6, wf0, wf1⟩ := hdr.rawAt hx
                have hbl : b < wr.heap.size := hbl
                have HTA := Lib.hid (raws_take hx)
                have HGD := Lib.hid (good_raw HRG.out.2.2.2.2.2.2.1 hx)
                obtain ⟨fl, ty, dat⟩ := x
                simp only at k0 k1
                have wj : IntKind.i64.wrap ((j : Int) + 1) = (j : Int) + 1 := IntWalk.i64_in _ ⟨by omega, by omega⟩
                have hbs : BS wr.drew wr.drew.heap.size A6 n6 dat := hbf.lt
                have hod : OB wr.drew 5 q A0 n0 c0 acc := o0
                have HFL := Lib.hid (show fl = 224 from HGD.out.1)
                have HVL := Lib.hid (show (attrB fl ty dat).length ≤ 3000 by have h1 := attrB_len fl ty dat; have h : dat.length ≤ 64 := HGD.out.2.2.2.1; omega)
                have hqd : q < wr.drew.heap.size := X_r.lt
                have hbd : b < wr.drew.heap.size := hbl
                have ct : wr.drew.cell? ⟨q, 10, none⟩ = some (.slice (some ⟨b, off, none⟩) n2 c2) ∧ wr.drew.cell? ⟨b, off + j * 3 + 1, none⟩ = some (.int .i64 ty) ∧ wr.drew.cell? ⟨b, off + j * 3 + 2, none⟩ = some (.slice A6 n6 c6) := ⟨x10, k1, k2⟩
                clear hx hbf wf0 wf1 hnc6 hdr
                go_upto_region 30 with fail
                clear k0 k1 k2 x10
                rename_i hk
                have HKK := Lib.hid hk
                clear hk
                refine wp_region_held_drew (S := (fun w' => w'.cell? ⟨q, 10, none⟩ = some (.slice (some ⟨b, off, none⟩) n2 c2) ∧ w'.cell? ⟨b, off + j * 3 + 1, none⟩ = some (.int .i64 ty) ∧ w'.cell? ⟨b, off + j * 3 + 2, none⟩ = some (.slice A6 n6 c6))) (by kernel_rfl) ?_ (fun hHeld => ?_)
                · first | exact ct | exact ct5
                refine wpAnyH_take (i := 0) (v := ?rrv0) rfl (by kernel_rfl) (by kernel_rfl) (by kernel_rfl) (by intro _ _ _ h; exact h) (Or.inl ⟨by rfl, ?rrhy0⟩) (by assumption) ?rrrest0
                case rrhy0 => (intro w hSw; (try dsimp only at hSw); go_simp; try with_reducible rfl)
                try simp only [Act.put, List.getElem_toArray, List.getElem_cons_succ, List.getElem_cons_zero, List.setIfInBounds_toArray, List.set_cons_zero, List.set_cons_succ]
                refine wpAnyH_take (i := 1) (v := ?rrv1) rfl (by kernel_rfl) (by kernel_rfl) (by kernel_rfl) (by intro _ _ _ h; exact h) (Or.inl ⟨by rfl, ?rrhy1⟩) (by assumption) ?rrrest1
                case rrhy1 => (intro w hSw; (try dsimp only at hSw); go_simp; try with_reducible rfl)
                try simp only [Act.put, List.getElem_toArray, List.getElem_cons_succ, List.getElem_cons_zero, List.setIfInBounds_toArray, List.set_cons_zero, List.set_cons_succ]
                refine wpAnyH_take (i := 2) (v := ?rrv2) rfl (by kernel_rfl) (by kernel_rfl) (by kernel_rfl) (by intro _ _ _ h; exact h) (Or.inl ⟨by rfl, ?rrhy2⟩) (by assumption) ?rrrest2
                case rrhy2 => (intro w hSw; (try dsimp only at hSw); go_simp; try with_reducible rfl)
                try simp only [Act.put, List.getElem_toArray, List.getElem_cons_succ, List.getElem_cons_zero, List.setIfInBounds_toArray, List.set_cons_zero, List.set_cons_succ]
                refine wpAnyH_take (i := 3) (v := ?rrv3) rfl (by kernel_rfl) (by kernel_rfl) (by kernel_rfl) (by intro _ _ _ h; exact h) (Or.inl ⟨by rfl, ?rrhy3⟩) (by assumption) ?rrrest3
                case rrhy3 => (intro w hSw; (try dsimp only at hSw); go_simp; try with_reducible rfl)
                try simp only [Act.put, List.getElem_toArray, List.getElem_cons_succ, List.getElem_cons_zero, List.setIfInBounds_toArray, List.set_cons_zero, List.set_cons_succ]
                refine wpAnyH_take (i := 4) (v := ?rrv4) rfl (by kernel_rfl) (by kernel_rfl) (by kernel_rfl) (by intro _ _ _ h; exact h) (Or.inl ⟨by rfl, ?rrhy4⟩) (by assumption) ?rrrest4
                case rrhy4 => (intro w hSw; (try dsimp only at hSw); go_simp; try with_reducible rfl)
                try simp only [Act.put, List.getElem_toArray, List.getElem_cons_succ, List.getElem_cons_zero, List.setIfInBounds_toArray, List.set_cons_zero, List.set_cons_succ]
                refine wpAnyH_take (i := 5) (v := ?rrv5) rfl (by kernel_rfl) (by kernel_rfl) (by kernel_rfl) (by intro _ _ _ h; exact h) (Or.inl ⟨by rfl, ?rrhy5⟩) (by assumption) ?rrrest5
                case rrhy5 => (intro w hSw; (try dsimp only at hSw); go_simp; try with_reducible rfl)
                try simp only [Act.put, List.getElem_toArray, List.getElem_cons_succ, List.getElem_cons_zero, List.setIfInBounds_toArray, List.set_cons_zero, List.set_cons_succ]
                refine wpAnyH_take (i := 6) (v := ?rrv6) rfl (by kernel_rfl) (by kernel_rfl) (by kernel_rfl) (by intro _ _ _ h; exact h) (Or.inl ⟨by rfl, ?rrhy6⟩) (by assumption) ?rrrest6
                case rrhy6 => (intro w hSw; (try dsimp only at hSw); go_simp; try with_reducible rfl)
                try simp only [Act.put, List.getElem_toArray, List.getElem_cons_succ, List.getElem_cons_zero, List.setIfInBounds_toArray, List.set_cons_zero, List.set_cons_succ]
                refine wpAnyH_take (i := 7) (v := ?rrv7) rfl (by kernel_rfl) (by kernel_rfl) (by kernel_rfl) (by intro _ _ _ h; exact h) (Or.inl ⟨by rfl, ?rrhy7⟩) (by assumption) ?rrrest7
                case rrhy7 => (intro w hSw; (try dsimp only at hSw); go_simp; try with_reducible rfl)
                try simp only [Act.put, List.getElem_toArray, List.getElem_cons_succ, List.getElem_cons_zero, List.setIfInBounds_toArray, List.set_cons_zero, List.set_cons_succ]
                refine wpAnyH_take (i := 8) (v := ?rrv8) rfl (by kernel_rfl) (by kernel_rfl) (by kernel_rfl) (by intro _ _ _ h; exact h) (Or.inl ⟨by rfl, ?rrhy8⟩) (by assumption) ?rrrest8
                case rrhy8 => (intro w hSw; (try dsimp only at hSw); go_simp; try with_reducible rfl)
                try simp only [Act.put, List.getElem_toArray, List.getElem_cons_succ, List.getElem_cons_zero, List.setIfInBounds_toArray, List.set_cons_zero, List.set_cons_succ]
                refine wpAnyH_take (i := 9) (v := ?rrv9) rfl (by kernel_rfl) (by kernel_rfl) (by kernel_rfl) (by intro _ _ _ h; exact h) (Or.inl ⟨by rfl, ?rrhy9⟩) (by assumption) ?rrrest9
                case rrhy9 => (intro w hSw; (try dsimp only at hSw); go_simp; try with_reducible rfl)
                try simp only [Act.put, List.getElem_toArray, List.getElem_cons_succ, List.getElem_cons_zero, List.setIfInBounds_toArray, List.set_cons_zero, List.set_cons_succ]
                refine wpAnyH_take (i := 10) (v := ?rrv10) rfl (by kernel_rfl) (by kernel_rfl) (by kernel_rfl) (by intro _ _ _ h; exact h) (Or.inl ⟨by rfl, ?rrhy10⟩) (by assumption) ?rrrest10
                case rrhy10 => (intro w hSw; (try dsimp only at hSw); go_simp; try with_reducible rfl)
                try simp only [Act.put, List.getElem_toArray, List.getElem_cons_succ, List.getElem_cons_zero, List.setIfInBounds_toArray, List.set_cons_zero, List.set_cons_succ]
                refine wpAnyH_take (i := 11) (v := ?rrv11) rfl (by kernel_rfl) (by kernel_rfl) (by kernel_rfl) (by intro _ _ _ h; exact h) (Or.inl ⟨by rfl, ?rrhy11⟩) (by assumption) ?rrrest11
                case rrhy11 => (intro w hSw; (try dsimp only at hSw); go_simp; try with_reducible rfl)
                try simp only [Act.put, List.getElem_toArray, List.getElem_cons_succ, List.getElem_cons_zero, List.setIfInBounds_toArray, List.set_cons_zero, List.set_cons_succ]
                refine wpAnyH_take (i := 12) (v := ?rrv12) rfl (by kernel_rfl) (by kernel_rfl) (by kernel_rfl) (by intro _ _ _ h; exact h) (Or.inl ⟨by rfl, ?rrhy12⟩) (by assumption) ?rrrest12
                case rrhy12 => (intro w hSw; (try dsimp only at hSw); go_simp; try with_reducible rfl)
                try simp only [Act.put, List.getElem_toArray, List.getElem_cons_succ, List.getElem_cons_zero, List.setIfInBounds_toArray, List.set_cons_zero, List.set_cons_succ]
                refine wpAnyH_ready (rs := [13]) (by kernel_rfl) (by simp) ?_
                refine AllReadyH.cons rfl (fun K hK => ?_) AllReadyH.nil
                go_simp
                go_wp2_with (go_at_call 98; refine (refAttr04 A0 n0 c0 acc 224 ty A6 n6 c6 dat _ hod.bs hbs (by omega) (by omega) HGD.out.2.1 HGD.out.2.2.1 (by have h1 := HAL.out; omega) (by have h : dat.length ≤ 64 := HGD.out.2.2.2.1; omega)).mono ?_; rintro _ w30 ⟨A30, n30, c30, rfl, o30, b30⟩; have ct5 := And.intro ((b30.cell (p := ⟨q, 10, none⟩) hqd).trans ct.1) (And.intro ((b30.cell (p := ⟨b, off + j * 3 + 1, none⟩) hbd).trans ct.2.1) ((b30.cell (p := ⟨b, off + j * 3 + 2, none⟩) hbd).trans ct.2.2)))
                refine hK.out _ _ ?_ (fun hHeld => ?_)
                · try dsimp only
                  first | exact ct | exact ct5
                clear hK K
                refine wpAnyH_ready (rs := [14]) (by kernel_rfl) (by simp) ?_
                refine AllReadyH.cons rfl (fun K hK => ?_) AllReadyH.nil
                go_simp
                go_wp2_with (fail)
                refine hK.out _ _ ?_ (fun hHeld => ?_)
                · try dsimp only
                  first | exact ct | exact ct5
                clear hK K
                refine wpAnyH_done (by kernel_rfl) ?_ _
                refine HKK.out _ _ ?_
                have HNX := Lib.hid (show acc ++ attrB 224 ty dat = a21 ++ (raws.take (j + 1)).flatMap (fun x => attrB x.1 x.2.1 x.2.2) by rw [HTA.out, HAC.out, List.append_assoc, HFL.out])
                have HNL := Lib.hid (show (acc ++ attrB 224 ty dat).length ≤ 24000 + 3000 * (j + 1) by have h1 := HAL.out; have h2 := HVL.out; rw [HFL.out] at h2; rw [List.length_append]; omega)
                have bkz := btr bkr ((Below.refl wr.heap.size wr).drew.trans b30) bkr.size
                have oz := o30.low (Nat.le_trans hqW bkr.size)
                clear hHeld ct ct5
                go_wp2_with fail
                go_roundw
                case rel => exact ⟨j + 1, A30, n30, c30, _, by omega, by go_num, rfl, oz, bkz, HNX, HNL⟩
                case measure => simp [intOf]; omega
              have d1 : decide ((j : Int) < n2) = false := decide_eq_false (by omega)
              have d1' : decide (j < n2) = false := decide_eq_false hlt
              have E24 := Lib.hid (show acc = a21 ++ raws.flatMap (fun x => attrB x.1 x.2.1 x.2.2) by have := HAC.out; rwa [List.take_of_length_le (by have := HN.out; omega)] at this)
              have Kl24 : acc.length ≤ 48000 := by have h1 := HAL.out; have h2 : raws.length ≤ 8 := HRG.out.2.2.2.2.2.2.2; have := HN.out; omega
              obtain ⟨w24, hw24⟩ : ∃ w', w' = wr := ⟨_, rfl⟩
              subst hw24
              obtain ⟨A24, n24, c24, h24⟩ : ∃ A n c, A = A0 ∧ n = n0 ∧ c = c0 := ⟨_, _, _, rfl, rfl, rfl⟩
              obtain ⟨rfl, rfl, rfl⟩ := h24
              have o24 := o0
              have bk24 := bkr
              clear hlt hj o0 bkr X_r
              have X_24 := hX.below bk24 hXl
              have x1 : w24.cell? ⟨q, 1, none⟩ = some (.slice A n c) := X_24.cell 1
              go_wp2_with fail
              refine (refFlat03 A n c path _ (HPK.out _ bk24) (by omega) hs).mono ?_
              rintro _ w25 ⟨Af, nf, cf, rfl, of_, b25⟩
              have HNF := Lib.hid of_.1
              have hnf := of_.ns
              have HFB := Lib.hid (show nf ≤ 64 by have h1 := of_.1; have h2 := flatA_len path; have h3 : sumN path ≤ 64 := (rightA_of HRG.out.2.1).2.1; omega)
              clear of_ x1 x10
              have bk25 := btr bk24 b25 bk24.size
              obtain ⟨A25, n25, c25, hA25⟩ : ∃ A n c, A = A24 ∧ n = n24 ∧ c = c24 := ⟨_, _, _, rfl, rfl, rfl⟩
              obtain ⟨rfl, rfl, rfl⟩ := hA25
              have o25 := o24.below b25
              go_wp2_with fail
              go_loopw [11, 13] (fun x i wr => ∃ (j : Nat) (bb : Bool), j ≤ nf ∧ i = .int .i64 j ∧ x = .bool bb ∧ wr = w25 ∧ Hid (bb = bigN ((flatA path).take j))) (fun _ i _ => nf - (intOf i).toNat)
              case atStart => exact ⟨0, false, by omega, rfl, rfl, rfl, Lib.hid (by simp [bigN])⟩
              case round =>
                obtain ⟨j, bb, hj, rfl, rfl, rfl, HBB⟩ := hrel
                by_cases hlt : j < nf
                case pos =>
                  have d2 : decide ((j : Int) < nf) = true := decide_eq_true (by omega)
                  have d2' : decide (j < nf) = true := decide_eq_true hlt
                  have hlti : (j : Int) < nf := by omega
                  have hj0 : (0 : Int) ≤ (j : Int) := by omega
                  obtain ⟨y, hy⟩ : ∃ y, (flatA path)[j]? = some y := ⟨_, List.getElem?_eq_getElem (by have := HNF.out; omega)⟩
                  obtain ⟨b, off, rfl, hbw, hcw⟩ := hnf.form hlt
                  rw [hy, Option.getD_some] at hcw
                  have HST := Lib.hid (show bigN ((flatA path).take (j + 1)) = (bb || decide (65535 < y)) by
                    rw [List.take_succ_eq_append_getElem (List.getElem?_eq_some_iff.1 hy).1, (List.getElem?_eq_some_iff.1 hy).2, HBB.out]
                    unfold bigN
                    rw [List.any_append]
                    simp)
                  have wj : IntKind.i64.wrap ((j : Int) + 1) = (j : Int) + 1 := IntWalk.i64_in _ ⟨by omega, by have h1 := HFB.out; omega⟩
                  clear hy
                  cases bb
                  · obtain ⟨r, hr⟩ : ∃ r, decide (65535 < y) = r := ⟨_, rfl⟩
                    have HSN := Lib.hid (show r = bigN ((flatA path).take (j + 1)) by rw [HST.out, hr]; rfl)
                    go_wp2_with fail
                    go_roundw
                    case rel => exact ⟨j + 1, r, by omega, by go_num, (by first | rfl | rw [hr]), (by first | rfl | trivial), HSN⟩
                    case measure => simp [intOf]; omega
                  · have HSN := Lib.hid (show true = bigN ((flatA path).take (j + 1)) by rw [HST.out]; rfl)
                    go_wp2_with fail
                    go_roundw
                    case rel => exact ⟨j + 1, true, by omega, by go_num, rfl, (by first | rfl | trivial), HSN⟩
                    case measure => simp [intOf]; omega
                have d2 : decide ((j : Int) < nf) = false := decide_eq_false (by omega)
                have d2' : decide (j < nf) = false := decide_eq_false hlt
                have HBN := Lib.hid (show bigN (flatA path) = bb by have := HBB.out; rw [List.take_of_length_le (by have := HNF.out; omega)] at this; exact this.symm)
                obtain ⟨w26, hw26⟩ : ∃ w', w' = wr := ⟨_, rfl⟩
                subst hw26
                obtain ⟨A26, n26, c26, h26⟩ : ∃ A n c, A = A25 ∧ n = n25 ∧ c = c25 := ⟨_, _, _, rfl, rfl, rfl⟩
                obtain ⟨rfl, rfl, rfl⟩ := h26
                have o26 := o25
                have bk26 := bk25
                clear hlt hj o24 o25 b25 hnf
                obtain ⟨bg, hbg⟩ : ∃ bg, decide (65535 < gs) = bg := ⟨_, rfl⟩
                have HBG := Lib.hid hbg
                obtain ⟨a28, ha28⟩ : ∃ a, acc ++ onlyIf false (attrB 192 17 (putA true path)) = a := ⟨_, rfl⟩
                have E28 := Lib.hid ha28
                have Kl28 : a28.length ≤ 51000 := by rw [← ha28]; exact only_len Kl24 HPL.out.2
                have o26 : OB w26 5 q A26 n26 c26 a28 := by rw [← ha28, only_no]; exact o26
                clear ha28
                have X_26 := hX.below bk26 hXl
                have x7 : w26.cell? ⟨q, 7, none⟩ = some (.int .u32 gs) := X_26.cell 7
                have x8 : w26.cell? ⟨q, 8, none⟩ = some (.int .u32 ga) := X_26.cell 8
                obtain ⟨a32, ha32⟩ : ∃ a, a28 ++ onlyIf false (attrB 192 18 (b32 gs ++ b32 ga)) = a := ⟨_, rfl⟩
                have E32 := Lib.hid ha32
                have o32 : OB w26 5 q A26 n26 c26 a32 := by rw [← ha32, only_no]; exact o26
                clear ha32
                have HAL2 := Lib.hid (show attsB true (⟨o, path, nx, md, pf, at_, ha, gs, ga, comms, raws⟩ : At) = a32 by
                  rw [← E32.out, ← E28.out, E24.out, ← E21.out, ← E15.out, ← E13.out, ← E11.out, ← E9.out, ← E7.out, ← E5.out, ← E3.out]
                  unfold attsB
                  simp only [HBN.out, HBG.out]
                  simp [onlyIf])
                go_wp2_with fail
                go_ret2
                exact ⟨A26, n26, c26, by rw [HP.out]; rfl, by rw [HP.out, HAL2.out]; exact o32.low (Nat.le_of_eq HQ.out), btr hBW.out bk26 hBW.out.size⟩
end Go.Proofs.YtlpkngjeihoknaaDoor
namespace Go.Proofs.YtlpkngjeihoknaaDoor
open Go.RowKit
set_option linter.unusedSimpArgs false
set_option linter.unusedVariables false
set_option maxHeartbeats 16000000 in
set_option maxRecDepth 100000 in
theorem lawAttrsPuts (w : World) (o : Int) (A : Option Addr) (n : Nat) (c : Nat) (path : List Seg) (nx : Int) (md : Int) (pf : Int) (at_ : Bool) (ha : Bool) (gs : Int) (ga : Int) (A1 : Option Addr) (n1 : Nat) (c1 : Nat) (comms : List Int) (A2 : Option Addr) (n2 : Nat) (c2 : Nat) (raws : List RawV) (hp : DL rSeg 2 w (Lo w) A n path) (hcm : NF w (Lo w) A1 n1 comms) (hrw : DL rRaw 3 w (Lo w) A2 n2 raws) (hwf : 0 ≤ nx ∧ nx < 4294967296 ∧ 0 ≤ gs ∧ gs < 4294967296 ∧ 0 ≤ ga ∧ ga < 4294967296) (hrm : ∀ x ∈ path, x.2.length ≤ big32) (wide : Bool) (ht : LookTab w) :
    Calls Tryd.prog 13 #[.agg #[.int .i64 o, .slice A n c, .int .u32 nx, .int .i64 md, .int .i64 pf, .bool at_, .bool ha, .int .u32 gs, .int .u32 ga, .slice A1 n1 c1, .slice A2 n2 c2], .bool wide] w fun en w' => en = .returned (.bool true) ∧ Below w.heap.size w w' := by
  obtain ⟨r, hr⟩ : ∃ r, fewAt path comms raws = r := ⟨_, rfl⟩
  have HFW := Lib.hid (show ∀ w', DL rSeg 2 w' (Lo w') A n path → DL rRaw 3 w' (Lo w') A2 n2 raws → Calls Tryd.prog 46 #[.agg #[.int .i64 o, .slice A n c, .int .u32 nx, .int .i64 md, .int .i64 pf, .bool at_, .bool ha, .int .u32 gs, .int .u32 ga, .slice A1 n1 c1, .slice A2 n2 c2]] w' fun en w'' => en = .returned (.bool r) ∧ Below w'.heap.size w' w'' from fun w' h1 h2 => by rw [← hr]; exact law04Few o A n c path nx md pf at_ ha gs ga A1 n1 c1 comms A2 n2 c2 raws w' h1 hcm.1 h2)
  have HAW := Lib.hid (show ∀ w', LookTab w' → Calls Tryd.prog 47 #[] w' fun en w'' => en = .returned (.bool true) ∧ Below w'.heap.size w' w'' from fun w' h => awake04 w' h (lt_of_cell (h 0 (by omega)).1))
  cases r
  case false =>
    clear hr hrm
    obtain ⟨W, hW, hX, b0⟩ := box1c w #[.int .i64 o, .slice A n c, .int .u32 nx, .int .i64 md, .int .i64 pf, .bool at_, .bool ha, .int .u32 gs, .int .u32 ga, .slice A1 n1 c1, .slice A2 n2 c2] 54
    go_enter Tryd.func13, Tryd.ntmps13
    go_upto_region 1 with fail
    try rw [hW]
    obtain ⟨q, hq⟩ : ∃ q, w.heap.size = q := ⟨_, rfl⟩
    try rw [hq]
    rw [hq] at hX
    clear hW hq
    have c_hX0 := hX.cell 0
    have c_hX1 := hX.cell 1
    have c_hX2 := hX.cell 2
    have c_hX3 := hX.cell 3
    have c_hX4 := hX.cell 4
    have c_hX5 := hX.cell 5
    have c_hX6 := hX.cell 6
    have c_hX7 := hX.cell 7
    have c_hX8 := hX.cell 8
    have c_hX9 := hX.cell 9
    have c_hX10 := hX.cell 10
    go_wp2_with fail
    refine (HFW.out _ (hp.segB4 b0) (hrw.rawB4 b0)).mono ?_
    rintro _ w1 ⟨rfl, b1⟩
    clear c_hX0 c_hX1 c_hX2 c_hX3 c_hX4 c_hX5 c_hX6 c_hX7 c_hX8 c_hX9 c_hX10
    have b01 := btr b0 b1 b0.size
    have hX_1 := hX.below b1 hX.lt
    have c_hX0 := hX_1.cell 0
    have c_hX1 := hX_1.cell 1
    have c_hX2 := hX_1.cell 2
    have c_hX3 := hX_1.cell 3
    have c_hX4 := hX_1.cell 4
    have c_hX5 := hX_1.cell 5
    have c_hX6 := hX_1.cell 6
    have c_hX7 := hX_1.cell 7
    have c_hX8 := hX_1.cell 8
    have c_hX9 := hX_1.cell 9
    have c_hX10 := hX_1.cell 10
    go_wp2_with fail
    refine (HAW.out _ (ht.call b01)).mono ?_
    rintro _ w2 ⟨rfl, b2⟩
    clear c_hX0 c_hX1 c_hX2 c_hX3 c_hX4 c_hX5 c_hX6 c_hX7 c_hX8 c_hX9 c_hX10
    have b02 := btr b01 b2 b01.size
    have hX_2 := hX_1.below b2 hX_1.lt
    clear hX_1
    have c_hX0 := hX_2.cell 0
    have c_hX1 := hX_2.cell 1
    have c_hX2 := hX_2.cell 2
    have c_hX3 := hX_2.cell 3
    have c_hX4 := hX_2.cell 4
    have c_hX5 := hX_2.cell 5
    have c_hX6 := hX_2.cell 6
    have c_hX7 := hX_2.cell 7
    have c_hX8 := hX_2.cell 8
    have c_hX9 := hX_2.cell 9
    have c_hX10 := hX_2.cell 10
    go_wp2_with fail
    go_ret
    exact ⟨rfl, b02⟩
  obtain ⟨hfw, hc60, hr12, hd400⟩ := fewAt_of hr
  have hfa := fewA_of hfw hrm
  have hn12 : n ≤ 12 := by have := hp.len; omega
  have HS := Lib.hid hfa.2
  have hn1c : n1 ≤ 60 := by have := hcm.1; omega
  have hn2c : n2 ≤ 12 := by have := hrw.len; omega
  obtain ⟨pb, hpb⟩ : ∃ x, putAt wide (⟨o, path, nx, md, pf, at_, ha, gs, ga, comms, raws⟩ : At) = x := ⟨_, rfl⟩
  obtain ⟨l, e⟩ := pb
  have HP1 := Lib.hid (show ∀ w', DL rSeg 2 w' (Lo w') A n path → NF w' (Lo w') A1 n1 comms → DL rRaw 3 w' (Lo w') A2 n2 raws → LookTab w' → Calls Tryd.prog 58 #[.agg #[.int .i64 o, .slice A n c, .int .u32 nx, .int .i64 md, .int .i64 pf, .bool at_, .bool ha, .int .u32 gs, .int .u32 ga, .slice A1 n1 c1, .slice A2 n2 c2], .bool wide] w' (RetPE w' (l, e)) from fun w' h1 h2 h3 h4 => by rw [← hpb]; exact attPut wide o A n c path nx md pf at_ ha gs ga A1 n1 c1 comms A2 n2 c2 raws w' h1 h2 h3 hn12 HS (by omega) h4 (lt_of_cell (h4 0 (by omega)).1) (Lib.hid hwf))
  have HP2 := Lib.hid (show ∀ w', DL rSeg 2 w' (Lo w') A n path → NF w' (Lo w') A1 n1 comms → DL rRaw 3 w' (Lo w') A2 n2 raws → Calls Tryd.prog 59 #[.agg #[.int .i64 o, .slice A n c, .int .u32 nx, .int .i64 md, .int .i64 pf, .bool at_, .bool ha, .int .u32 gs, .int .u32 ga, .slice A1 n1 c1, .slice A2 n2 c2], .bool wide] w' (RetPE w' (l, e)) from fun w' h1 h2 h3 => by
    rw [← hpb]
    cases wide
    · exact refPut04_narrow o A n c path nx md pf at_ ha gs ga A1 n1 c1 comms A2 n2 c2 raws w' h1 h2 h3 hn12 HS (by omega) (Lib.hid hwf)
    · exact refPut04_wide o A n c path nx md pf at_ ha gs ga A1 n1 c1 comms A2 n2 c2 raws w' h1 h2 h3 hn12 HS (by omega) (Lib.hid hwf))
  have H3 := Lib.hid (show ∀ (w' : World) (A A' : Option Addr) (n n' c c' : Nat), BS w' w'.heap.size A n l → BS w' w'.heap.size A' n' l → Calls Tryd.prog 39 #[.slice A n c, .slice A' n' c'] w' fun en w'' => en = .returned (.bool true) ∧ Below w'.heap.size w' w'' from fun w' A A' n n' c c' h h' => by
    have := ref01Same A A' n n' c c' l l w' _ _ h h'
    rw [beq_self_eq_true] at this
    exact this.mono fun e w'' hx => ⟨hx.1, by rw [← hx.2]; exact Below.refl _ _⟩)
  have e1 : (e == e) = true := by simp
  clear hpb hr hrm hfw hc60 hr12 hd400 hfa hn12 hn1c hn2c HS hwf
  obtain ⟨W, hW, hX, b0⟩ := box1c w #[.int .i64 o, .slice A n c, .int .u32 nx, .int .i64 md, .int .i64 pf, .bool at_, .bool ha, .int .u32 gs, .int .u32 ga, .slice A1 n1 c1, .slice A2 n2 c2] 54
  go_enter Tryd.func13, Tryd.ntmps13
  go_upto_region 1 with fail
  try rw [hW]
  obtain ⟨q, hq⟩ : ∃ q, w.heap.size = q := ⟨_, rfl⟩
  try rw [hq]
  rw [hq] at hX
  clear hW hq
  have c_hX0 := hX.cell 0
  have c_hX1 := hX.cell 1
  have c_hX2 := hX.cell 2
  have c_hX3 := hX.cell 3
  have c_hX4 := hX.cell 4
  have c_hX5 := hX.cell 5
  have c_hX6 := hX.cell 6
  have c_hX7 := hX.cell 7
  have c_hX8 := hX.cell 8
  have c_hX9 := hX.cell 9
  have c_hX10 := hX.cell 10
  go_wp2_with fail
  refine (HFW.out _ (hp.segB4 b0) (hrw.rawB4 b0)).mono ?_
  rintro _ w1 ⟨rfl, b1⟩
  clear c_hX0 c_hX1 c_hX2 c_hX3 c_hX4 c_hX5 c_hX6 c_hX7 c_hX8 c_hX9 c_hX10
  have b01 := btr b0 b1 b0.size
  have hX_1 := hX.below b1 hX.lt
  have c_hX0 := hX_1.cell 0
  have c_hX1 := hX_1.cell 1
  have c_hX2 := hX_1.cell 2
  have c_hX3 := hX_1.cell 3
  have c_hX4 := hX_1.cell 4
  have c_hX5 := hX_1.cell 5
  have c_hX6 := hX_1.cell 6
  have c_hX7 := hX_1.cell 7
  have c_hX8 := hX_1.cell 8
  have c_hX9 := hX_1.cell 9
  have c_hX10 := hX_1.cell 10
  go_wp2_with fail
  refine (HP1.out _ (hp.segB4 b01) (hcm.numB4 b01) (hrw.rawB4 b01) (ht.call b01)).mono ?_
  rintro _ w2 ⟨A3, n3, c3, rfl, o3, b2⟩
  clear c_hX0 c_hX1 c_hX2 c_hX3 c_hX4 c_hX5 c_hX6 c_hX7 c_hX8 c_hX9 c_hX10
  have b02 := btr b01 b2 b01.size
  have hX_2 := hX_1.below b2 hX_1.lt
  clear hX_1
  have c_hX0 := hX_2.cell 0
  have c_hX1 := hX_2.cell 1
  have c_hX2 := hX_2.cell 2
  have c_hX3 := hX_2.cell 3
  have c_hX4 := hX_2.cell 4
  have c_hX5 := hX_2.cell 5
  have c_hX6 := hX_2.cell 6
  have c_hX7 := hX_2.cell 7
  have c_hX8 := hX_2.cell 8
  have c_hX9 := hX_2.cell 9
  have c_hX10 := hX_2.cell 10
  go_wp2_with fail
  refine (HP2.out _ (hp.segB4 b02) (hcm.numB4 b02) (hrw.rawB4 b02)).mono ?_
  rintro _ w3 ⟨A4, n4, c4, rfl, o4, b3⟩
  clear c_hX0 c_hX1 c_hX2 c_hX3 c_hX4 c_hX5 c_hX6 c_hX7 c_hX8 c_hX9 c_hX10
  have b03 := btr b02 b3 b02.size
  have hX_3 := hX_2.below b3 hX_2.lt
  clear hX_2
  have o3_3 := o3.below b3
  have c_hX0 := hX_3.cell 0
  have c_hX1 := hX_3.cell 1
  have c_hX2 := hX_3.cell 2
  have c_hX3 := hX_3.cell 3
  have c_hX4 := hX_3.cell 4
  have c_hX5 := hX_3.cell 5
  have c_hX6 := hX_3.cell 6
  have c_hX7 := hX_3.cell 7
  have c_hX8 := hX_3.cell 8
  have c_hX9 := hX_3.cell 9
  have c_hX10 := hX_3.cell 10
  go_wp2_with fail
  refine (H3.out _ A3 A4 n3 n4 c3 c4 o3_3.bs o4.bs).mono ?_
  rintro _ w4 ⟨rfl, b4⟩
  clear c_hX0 c_hX1 c_hX2 c_hX3 c_hX4 c_hX5 c_hX6 c_hX7 c_hX8 c_hX9 c_hX10
  have b04 := btr b03 b4 b03.size
  have hX_4 := hX_3.below b4 hX_3.lt
  clear hX_3
  have o3_4 := o3_3.below b4
  clear o3_3
  have o4_4 := o4.below b4
  have c_hX0 := hX_4.cell 0
  have c_hX1 := hX_4.cell 1
  have c_hX2 := hX_4.cell 2
  have c_hX3 := hX_4.cell 3
  have c_hX4 := hX_4.cell 4
  have c_hX5 := hX_4.cell 5
  have c_hX6 := hX_4.cell 6
  have c_hX7 := hX_4.cell 7
  have c_hX8 := hX_4.cell 8
  have c_hX9 := hX_4.cell 9
  have c_hX10 := hX_4.cell 10
  go_wp2_with fail
  refine (HAW.out _ (ht.call b04)).mono ?_
  rintro _ w5 ⟨rfl, b5⟩
  clear c_hX0 c_hX1 c_hX2 c_hX3 c_hX4 c_hX5 c_hX6 c_hX7 c_hX8 c_hX9 c_hX10
  have b05 := btr b04 b5 b04.size
  have hX_5 := hX_4.below b5 hX_4.lt
  clear hX_4
  have o3_5 := o3_4.below b5
  clear o3_4
  have o4_5 := o4_4.below b5
  clear o4_4
  have c_hX0 := hX_5.cell 0
  have c_hX1 := hX_5.cell 1
  have c_hX2 := hX_5.cell 2
  have c_hX3 := hX_5.cell 3
  have c_hX4 := hX_5.cell 4
  have c_hX5 := hX_5.cell 5
  have c_hX6 := hX_5.cell 6
  have c_hX7 := hX_5.cell 7
  have c_hX8 := hX_5.cell 8
  have c_hX9 := hX_5.cell 9
  have c_hX10 := hX_5.cell 10
  go_wp2_with fail
  go_ret
  exact ⟨rfl, b05⟩
end Go.Proofs.YtlpkngjeihoknaaDoor
