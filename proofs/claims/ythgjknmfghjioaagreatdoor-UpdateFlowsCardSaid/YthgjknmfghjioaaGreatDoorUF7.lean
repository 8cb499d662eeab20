/- Joined texts (AttPuts UpdC UpdH UpdI UpdF). Conditions: those of the theorems. -/
import Derived.Test.YthgjknmfghjioaaGreatDoorProg
import Derived.WalkKit
import Derived.WalkSpells
import Derived.WalkLawsBesides
import Derived.Outline
import Derived.Deep.QuietTactic
import Derived.BigQuiet
import Derived.Handy
import Derived.Lib.Hide
import Derived.Test.YthgjknmfghjioaaGreatDoorUF1
import Derived.Test.YthgjknmfghjioaaGreatDoorUF2
import Derived.Test.YthgjknmfghjioaaGreatDoorUF3
import Derived.Test.YthgjknmfghjioaaGreatDoorUF6
import Derived.Deep.DeepCutAuto
import Derived.Deep.CutBlock
import Derived.Laws.Cover4
import Derived.OrdersHeld
import Derived.Deep.RegionHeld
import Derived.Test.YthgjknmfghjioaaGreatDoorTki
namespace Go.Proofs.YthgjknmfghjioaaGreatDoor
open Go.RowKit
set_option linter.unusedSimpArgs false
set_option linter.unusedVariables false
set_option maxHeartbeats 8000000 in
set_option maxRecDepth 100000 in
theorem refAttr04 (A : Option Addr) (n c : Nat) (b : List UInt8) (fl kind : Int) (A' : Option Addr) (n' c' : Nat) (v : List UInt8) (w : World) (h : BS w w.heap.size A n b) (h' : BS w w.heap.size A' n' v) (hf0 : 0 ≤ fl) (hf1 : fl ≤ 224) (hk0 : 0 ≤ kind) (hk1 : kind ≤ 255) (hb : b.length ≤ 10000000) (hv : v.length ≤ 60000) :
  Calls Tryz.prog 138 #[.slice A n c, .int .i64 fl, .int .i64 kind, .slice A' n' c'] w (RetB w 5 (b ++ attrB fl kind v)) := by
 have HN := Lib.hid h'.1
 have wk : IntKind.u8.wrap kind = kind := by rw [IntKind.wrap_u8]; omega
 have wf : IntKind.u8.wrap fl = fl := by rw [IntKind.wrap_u8]; omega
 have hn' : n' ≤ 60000 := by have := HN.out; omega
 have HBL := Lib.hid hb
 have HVL := Lib.hid hv
 have HF := Lib.hid (And.intro hf0 hf1)
 have HK := Lib.hid (And.intro hk0 hk1)
 have w16 : IntKind.i64.wrap (fl + 16) = fl + 16 := IntWalk.i64_in _ ⟨by omega, by omega⟩
 have w168 : IntKind.u8.wrap (fl + 16) = fl + 16 := by rw [IntKind.wrap_u8]; omega
 clear hb hv hf0 hf1 hk0 hk1
 go_enter Tryz.func138, Tryz.ntmps138
 go_upto_region 3 with (at_builtin; refine wpl_app rfl (.tmp 10) (.tmp 11) _ rfl 5 Tryz.underlying38 u8info w.heap.size none 0 0 [] (by rfl) OB.nil_ w.heap.size A n c b (by rfl) h (by have := HBL.out; simp; omega) (Nat.le_refl _) ?_; intro A1 n1 c1 w1 o1 b1 g1)
 rw [List.nil_append] at o1
 have HZ1 := Lib.hid b1.size
 by_cases hbig : 255 < n'
 ·have e1 : decide ((255 : Int) < (n' : Int)) = true := decide_eq_true (by omega)
  have e1' : decide (255 < n') = true := decide_eq_true hbig
  have HE := Lib.hid (show attrB fl kind v = [ub (fl + 16), ub kind] ++ b16 (n' : Int) ++ v by unfold attrB; rw [if_pos (by have := HN.out; omega), ← HN.out])
  clear hbig
  have bv2 := BS.one w1 5 (fl + 16) (by have := HF.out; have := HK.out; omega) (by have := HF.out; have := HK.out; omega)
  have ba2 := b1.alloc HZ1.out (.cells #[.int .u8 (fl + 16)] 5)
  go_upto_region 5 with (at_builtin; refine wpl_app rfl (.tmp 16) (.tmp 20) _ rfl 5 Tryz.underlying38 u8info w.heap.size A1 n1 c1 _ (by rfl) (o1.alloc _) (w1.heap.size + 1) (some ⟨w1.heap.size, 0, none⟩) 1 1 [ub (fl + 16)] (by rfl) bv2 (by have := HBL.out; simp; omega) (by have := HZ1.out; simp; omega) ?_; intro A2 n2 c2 w2 o2 b2x g2)
  have b2 := ba2.trans b2x
  have HZ2 := Lib.hid b2.size
  clear bv2 ba2 b2x
  have bv3 := BS.one w2 5 (kind) (by have := HF.out; have := HK.out; omega) (by have := HF.out; have := HK.out; omega)
  have ba3 := b2.alloc HZ2.out (.cells #[.int .u8 (kind)] 5)
  go_upto_region 6 with (at_builtin; refine wpl_app rfl (.tmp 22) (.tmp 25) _ rfl 5 Tryz.underlying38 u8info w.heap.size A2 n2 c2 _ (by rfl) (o2.alloc _) (w2.heap.size + 1) (some ⟨w2.heap.size, 0, none⟩) 1 1 [ub (kind)] (by rfl) bv3 (by have := HBL.out; simp; omega) (by have := HZ2.out; simp; omega) ?_; intro A3 n3 c3 w3 o3 b3x g3)
  have b3 := ba3.trans b3x
  have HZ3 := Lib.hid b3.size
  clear bv3 ba3 b3x
  have HC := Lib.hid (ref01Put16 A3 n3 c3 _ (n' : Int) w3 o3.bs (by have := HBL.out; simp; omega))
  go_wp2_with fail
  refine HC.out.mono ?_
  rintro _ w4 ⟨A4, n4, c4, rfl, o4, b4x⟩
  have b4 := btr b3 b4x b3.size
  have h4 := h'.below b4
  have o4 := o4.low HZ3.out
  have HZ4 := Lib.hid b4.size
  go_wp2_with (at_builtin; refine wpl_app rfl (.tmp 47) (.tmp 48) _ rfl 5 Tryz.underlying38 u8info w.heap.size A4 n4 c4 _ (by rfl) o4 w.heap.size A' n' c' v (by rfl) h4 (by have := HBL.out; have := HVL.out; simp [b16]; omega) HZ4.out ?_; intro A5 n5 c5 w5 o5 b5 g5)
  go_ret
  exact ⟨A5, n5, c5, rfl, by rw [HE.out]; simpa using o5, b4.trans b5⟩
 ·have e1 : decide ((255 : Int) < (n' : Int)) = false := decide_eq_false (by omega)
  have e1' : decide (255 < n') = false := decide_eq_false hbig
  have HE := Lib.hid (show attrB fl kind v = [ub fl, ub kind, ub (n' : Int)] ++ v by unfold attrB; rw [if_neg (by have := HN.out; omega), ← HN.out])
  have wn : IntKind.u8.wrap (n' : Int) = (n' : Int) := by rw [IntKind.wrap_u8]; omega
  have hn255 : (n' : Int) ≤ 255 := by omega
  have hn0 : (0 : Int) ≤ (n' : Int) := by omega
  clear hbig
  have bv2 := BS.one w1 5 (fl) (by have := HF.out; have := HK.out; omega) (by have := HF.out; have := HK.out; omega)
  have ba2 := b1.alloc HZ1.out (.cells #[.int .u8 (fl)] 5)
  go_upto_region 8 with (at_builtin; refine wpl_app rfl (.tmp 31) (.tmp 34) _ rfl 5 Tryz.underlying38 u8info w.heap.size A1 n1 c1 _ (by rfl) (o1.alloc _) (w1.heap.size + 1) (some ⟨w1.heap.size, 0, none⟩) 1 1 [ub (fl)] (by rfl) bv2 (by have := HBL.out; simp; omega) (by have := HZ1.out; simp; omega) ?_; intro A2 n2 c2 w2 o2 b2x g2)
  have b2 := ba2.trans b2x
  have HZ2 := Lib.hid b2.size
  clear bv2 ba2 b2x
  have bv3 := BS.one w2 5 (kind) (by have := HF.out; have := HK.out; omega) (by have := HF.out; have := HK.out; omega)
  have ba3 := b2.alloc HZ2.out (.cells #[.int .u8 (kind)] 5)
  go_upto_region 9 with (at_builtin; refine wpl_app rfl (.tmp 36) (.tmp 39) _ rfl 5 Tryz.underlying38 u8info w.heap.size A2 n2 c2 _ (by rfl) (o2.alloc _) (w2.heap.size + 1) (some ⟨w2.heap.size, 0, none⟩) 1 1 [ub (kind)] (by rfl) bv3 (by have := HBL.out; simp; omega) (by have := HZ2.out; simp; omega) ?_; intro A3 n3 c3 w3 o3 b3x g3)
  have b3 := ba3.trans b3x
  have HZ3 := Lib.hid b3.size
  clear bv3 ba3 b3x
  have bv4 := BS.one w3 5 ((n' : Int)) (by have := HF.out; have := HK.out; omega) (by have := HF.out; have := HK.out; omega)
  have ba4 := b3.alloc HZ3.out (.cells #[.int .u8 ((n' : Int))] 5)
  go_upto_region 10 with (at_builtin; refine wpl_app rfl (.tmp 41) (.tmp 45) _ rfl 5 Tryz.underlying38 u8info w.heap.size A3 n3 c3 _ (by rfl) (o3.alloc _) (w3.heap.size + 1) (some ⟨w3.heap.size, 0, none⟩) 1 1 [ub ((n' : Int))] (by rfl) bv4 (by have := HBL.out; simp; omega) (by have := HZ3.out; simp; omega) ?_; intro A4 n4 c4 w4 o4 b4x g4)
  have b4 := ba4.trans b4x
  have HZ4 := Lib.hid b4.size
  clear bv4 ba4 b4x
  have h4 := h'.below b4
  go_wp2_with (at_builtin; refine wpl_app rfl (.tmp 47) (.tmp 48) _ rfl 5 Tryz.underlying38 u8info w.heap.size A4 n4 c4 _ (by rfl) o4 w.heap.size A' n' c' v (by rfl) h4 (by have := HBL.out; have := HVL.out; simp; omega) HZ4.out ?_; intro A5 n5 c5 w5 o5 b5 g5)
  go_ret
  exact ⟨A5, n5, c5, rfl, by rw [HE.out]; simpa using o5, b4.trans b5⟩
theorem only_no (acc l : List UInt8) : acc ++ onlyIf false l = acc := List.append_nil _
theorem only_len {acc : List UInt8} {is : Bool} {fl kind : Int} {v : List UInt8} {K : Nat} (h : acc.length ≤ K) (hv : v.length ≤ 2000) : (acc ++ onlyIf is (attrB fl kind v)).length ≤ K + 3000 := put_len h hv
set_option maxHeartbeats 16000000 in
set_option maxRecDepth 100000 in
theorem refPut04_wide (o : Int) (A : Option Addr) (n c : Nat) (path : List Seg) (nx md pf : Int) (at_ ha : Bool) (gs ga : Int) (A1 : Option Addr) (n1 c1 : Nat) (comms : List Int) (A2 : Option Addr) (n2 c2 : Nat) (raws : List RawV) (w : World) (hp : DL rSeg 2 w (Lo w) A n path) (hc : NF w (Lo w) A1 n1 comms) (hd : DL rRaw 3 w (Lo w) A2 n2 raws) (hn : n ≤ 12) (hs : Hid (sumN path ≤ big32)) (hn2 : n2 ≤ 100000) (hw : Hid (0 ≤ nx ∧ nx < 4294967296 ∧ 0 ≤ gs ∧ gs < 4294967296 ∧ 0 ≤ ga ∧ ga < 4294967296)) :
  Calls Tryz.prog 84 #[.agg #[.int .i64 o, .slice A n c, .int .u32 nx, .int .i64 md, .int .i64 pf, .bool at_, .bool ha, .int .u32 gs, .int .u32 ga, .slice A1 n1 c1, .slice A2 n2 c2], .bool true] w (RetPE w (putAt true (⟨o, path, nx, md, pf, at_, ha, gs, ga, comms, raws⟩ : At))) := by
 have HN := Lib.hid hd.len
 have HC := Lib.hid hc.1
 obtain ⟨rt, hrt⟩ : ∃ rt, rightAt (⟨o, path, nx, md, pf, at_, ha, gs, ga, comms, raws⟩ : At) = rt := ⟨_, rfl⟩
 have HR := Lib.hid (show ∀ w', DL rSeg 2 w' (Lo w') A n path → DL rRaw 3 w' (Lo w') A2 n2 raws → Calls Tryz.prog 42 #[.agg #[.int .i64 o, .slice A n c, .int .u32 nx, .int .i64 md, .int .i64 pf, .bool at_, .bool ha, .int .u32 gs, .int .u32 ga, .slice A1 n1 c1, .slice A2 n2 c2]] w' fun en w'' => en = .returned (.bool rt) ∧ Below w'.heap.size w' w'' from fun w' h1 h2 => by rw [← hrt]; exact refRight04 o A n c path nx md pf at_ ha gs ga A1 n1 c1 comms A2 n2 c2 raws w' h1 hc.1 h2 (by omega) hn2)
 have HRT := Lib.hid hrt
 obtain ⟨W, hW, hX, bW⟩ := box1c w #[.int .i64 o, .slice A n c, .int .u32 nx, .int .i64 md, .int .i64 pf, .bool at_, .bool ha, .int .u32 gs, .int .u32 ga, .slice A1 n1 c1, .slice A2 n2 c2] 75
 have hpW := hp.keep rSeg_ok (Kp.call bW)
 have hdW := hd.keep rRaw_ok (Kp.call bW)
 have hcW := hc.keep (Kp.call bW)
 have hXl := hX.lt
 have hqW := bW.size
 obtain ⟨q, hq⟩ : ∃ q, w.heap.size = q := ⟨_, rfl⟩
 have HQ := Lib.hid hq
 go_enter Tryz.func84, Tryz.ntmps84
 go_upto_region 1 with fail
 try rw [hW]
 rw [hq] at hX hXl hqW
 try rw [hq]
 have hBW := Lib.hid bW
 clear hW hq hrt bW
 have y0 : W.cell? ⟨q, 0, none⟩ = some (.int .i64 o) := hX.cell 0
 have y1 : W.cell? ⟨q, 1, none⟩ = some (.slice A n c) := hX.cell 1
 have y2 : W.cell? ⟨q, 2, none⟩ = some (.int .u32 nx) := hX.cell 2
 have y3 : W.cell? ⟨q, 3, none⟩ = some (.int .i64 md) := hX.cell 3
 have y4 : W.cell? ⟨q, 4, none⟩ = some (.int .i64 pf) := hX.cell 4
 have y5 : W.cell? ⟨q, 5, none⟩ = some (.bool at_) := hX.cell 5
 have y6 : W.cell? ⟨q, 6, none⟩ = some (.bool ha) := hX.cell 6
 have y7 : W.cell? ⟨q, 7, none⟩ = some (.int .u32 gs) := hX.cell 7
 have y8 : W.cell? ⟨q, 8, none⟩ = some (.int .u32 ga) := hX.cell 8
 have y9 : W.cell? ⟨q, 9, none⟩ = some (.slice A1 n1 c1) := hX.cell 9
 have y10 : W.cell? ⟨q, 10, none⟩ = some (.slice A2 n2 c2) := hX.cell 10
 go_wp2_with fail
 refine (HR.out _ hpW hdW).mono ?_
 rintro _ w1 ⟨rfl, bk1⟩
 clear y0 y1 y2 y3 y4 y5 y6 y7 y8 y9 y10
 cases rt
 ·have HP := Lib.hid (show putAt true (⟨o, path, nx, md, pf, at_, ha, gs, ga, comms, raws⟩ : At) = ([], 1) by unfold putAt; rw [HRT.out]; rfl)
  go_wp2_with fail
  go_ret2
  exact ⟨none, 0, 0, by rw [HP.out]; rfl, by rw [HP.out]; exact OB.nil_, btr hBW.out bk1 hBW.out.size⟩
 have HRG := Lib.hid (rightAt_of HRT.out)
 have HP := Lib.hid (show putAt true (⟨o, path, nx, md, pf, at_, ha, gs, ga, comms, raws⟩ : At) = (attsB true (⟨o, path, nx, md, pf, at_, ha, gs, ga, comms, raws⟩ : At), 0) by unfold putAt; rw [HRT.out]; rfl)
 have HPL := Lib.hid (show (putA true path).length ≤ 2000 ∧ (putA true path).length ≤ 2000 by
  have h1 := rightA_of HRG.out.2.1
  have h2 := putA_len true path
  have h3 := putA_len true path
  simp only at h1
  omega)
 have HNB := Lib.hid (show (-1 ≤ md ∧ md ≤ 4294967295) ∧ (-1 ≤ pf ∧ pf ≤ 4294967295) from ⟨of_decide_eq_true HRG.out.2.2.1, of_decide_eq_true HRG.out.2.2.2.1⟩)
 have HPT := Lib.hid (show ∀ (bb : Bool) w', DL rSeg 2 w' (Lo w') A n path → Calls Tryz.prog 139 #[.slice A n c, .bool bb] w' (RetB w' 5 (putA bb path)) from fun bb w' h => refPut03 A n c path bb w' h hn hs)
 have HPK := Lib.hid (show ∀ w', Below W.heap.size W w' → DL rSeg 2 w' (Lo w') A n path from fun w' h => hpW.keep rSeg_ok (Kp.call h))
 have HDK := Lib.hid (show ∀ w', Below W.heap.size W w' → DL rRaw 3 w' (Lo w') A2 n2 raws from fun w' h => hdW.keep rRaw_ok (Kp.call h))
 have HCK := Lib.hid (show ∀ w', Below W.heap.size W w' → NF w' (Lo w') A1 n1 comms from fun w' h => hcW.keep (Kp.call h))
 have HP32 := Lib.hid (show ∀ (y : Int) (w' : World), 0 ≤ y → y < 4294967296 → Calls Tryz.prog 140 #[.slice none 0 0, .int .u32 y] w' (RetB w' 5 (b32 y)) from fun y w' h0 h1 => by have := ref01Put32 none 0 0 [] y w' ⟨rfl, Reads.none_⟩ (by simp) h0 h1; rwa [List.nil_append] at this)
 have ho0 : 0 ≤ o ∧ o ≤ 2 := HRG.out.1
 obtain ⟨ho0, ho2⟩ := ho0
 have wo : IntKind.u8.wrap o = o := by rw [IntKind.wrap_u8]; omega
 obtain ⟨hw0, hw1, hw2, hw3, hw4, hw5⟩ := hw.out
 have HWN := Lib.hid (And.intro hw0 hw1)
 have HWG := Lib.hid (And.intro hw2 hw3)
 have HWA := Lib.hid (And.intro hw4 hw5)
 clear hw0 hw1 hw2 hw3 hw4 hw5 hpW hdW hcW
 have X_1 := hX.below bk1 hXl
 have x0 : w1.cell? ⟨q, 0, none⟩ = some (.int .i64 o) := X_1.cell 0
 obtain ⟨w2, hw2, hB2, b2⟩ := box1c w1 #[.int .u8 o] 5
 have bs2 : BS w2 w2.heap.size (some ⟨w1.heap.size, 0, none⟩) 1 [ub o] := by rw [← hw2]; exact (BS.one w1 5 o ho0 (by omega)).more (by simp)
 have bk2 := btr bk1 b2 bk1.size
 go_wp2_with fail
 try rw [hw2]
 refine (refAttr04 none 0 0 [] 64 1 (some ⟨w1.heap.size, 0, none⟩) 1 1 [ub o] w2 ⟨rfl, Reads.none_⟩ bs2 (by omega) (by omega) (by omega) (by omega) (by simp) (by simp)).mono ?_
 rintro _ w3 ⟨A3, n3, c3, rfl, o3, b3⟩
 have bk3 := btr bk2 b3 bk2.size
 have o3 := o3.low (Nat.le_trans hqW bk2.size)
 rw [List.nil_append] at o3
 clear x0 hw2 hB2 bs2 b2 b3
 obtain ⟨a3, ha3⟩ : ∃ a, attrB 64 1 [ub o] = a := ⟨_, rfl⟩
 have Kl3 : a3.length ≤ 3000 := by rw [← ha3]; exact by have := attrB_len 64 1 [ub o]; simp at this; omega
 have E3 := Lib.hid ha3
 rw [ha3] at o3
 clear ha3
 have X_3 := hX.below bk3 hXl
 have x1 : w3.cell? ⟨q, 1, none⟩ = some (.slice A n c) := X_3.cell 1
 go_wp2_with fail
 refine (HPT.out true _ (HPK.out _ bk3)).mono ?_
 rintro _ w4 ⟨A40, n40, c40, rfl, o40, b4⟩
 have bk4 := btr bk3 b4 bk3.size
 obtain ⟨A4, n4, c4, hA4⟩ : ∃ A n c, A = A3 ∧ n = n3 ∧ c = c3 := ⟨_, _, _, rfl, rfl, rfl⟩
 obtain ⟨rfl, rfl, rfl⟩ := hA4
 have o4 := o3.below b4
 go_wp2_with fail
 refine (refAttr04 A4 n4 c4 a3 64 2 A40 n40 c40 (putA true path) w4 o4.bs (o40.bs) (by omega) (by omega) (by omega) (by omega) (by have := Kl3; omega) (by have := (HPL.out.1); omega)).mono ?_
 rintro _ w5 ⟨A5, n5, c5, rfl, o5, b5⟩
 have bk5 := btr bk4 b5 bk4.size
 have o5 := o5.low (Nat.le_trans hqW bk4.size)
 obtain ⟨a5, ha5⟩ : ∃ a, a3 ++ attrB 64 2 (putA true path) = a := ⟨_, rfl⟩
 have Kl5 : a5.length ≤ 6000 := by rw [← ha5]; exact by have h1 := attrB_len 64 2 (putA true path); have h2 := HPL.out.1; have h3 := Kl3; rw [List.length_append]; omega
 have E5 := Lib.hid ha5
 rw [ha5] at o5
 clear ha5 x1 o40 o4
 have X_5 := hX.below bk5 hXl
 have x2 : w5.cell? ⟨q, 2, none⟩ = some (.int .u32 nx) := X_5.cell 2
 go_wp2_with fail
 refine (HP32.out nx _ HWN.out.1 HWN.out.2).mono ?_
 rintro _ w6 ⟨A60, n60, c60, rfl, o60, b6⟩
 have bk6 := btr bk5 b6 bk5.size
 obtain ⟨A6, n6, c6, hA6⟩ : ∃ A n c, A = A5 ∧ n = n5 ∧ c = c5 := ⟨_, _, _, rfl, rfl, rfl⟩
 obtain ⟨rfl, rfl, rfl⟩ := hA6
 have o6 := o5.below b6
 go_wp2_with fail
 refine (refAttr04 A6 n6 c6 a5 64 3 A60 n60 c60 (b32 nx) w6 o6.bs (o60.bs) (by omega) (by omega) (by omega) (by omega) (by have := Kl5; omega) (by have := (show (b32 nx).length ≤ 2000 by rw [b32_len]; omega); omega)).mono ?_
 rintro _ w7 ⟨A7, n7, c7, rfl, o7, b7⟩
 have bk7 := btr bk6 b7 bk6.size
 have o7 := o7.low (Nat.le_trans hqW bk6.size)
 obtain ⟨a7, ha7⟩ : ∃ a, a5 ++ attrB 64 3 (b32 nx) = a := ⟨_, rfl⟩
 have Kl7 : a7.length ≤ 9000 := by rw [← ha7]; exact by have h1 := attrB_len 64 3 (b32 nx); have h2 := b32_len nx; have h3 := Kl5; rw [List.length_append]; omega
 have E7 := Lib.hid ha7
 rw [ha7] at o7
 clear ha7 x2 o60 o6
 have X_7 := hX.below bk7 hXl
 have x3 : w7.cell? ⟨q, 3, none⟩ = some (.int .i64 md) := X_7.cell 3
 obtain ⟨a9, ha9⟩ : ∃ a, a7 ++ onlyIf (decide (0 ≤ md)) (attrB 128 4 (b32 (md % 4294967296))) = a := ⟨_, rfl⟩
 have Kl9 : a9.length ≤ 12000 := by rw [← ha9]; exact only_len Kl7 (by rw [b32_len]; omega)
 have E9 := Lib.hid ha9
 go_upto_if 35 with fail
 go_cut [6] (fun s6 wx => ∃ (A : Option Addr) (n c : Nat), s6 = .slice A n c ∧ OB wx 5 q A n c a9 ∧ Below W.heap.size W wx)
 case first =>
  by_cases h0 : 0 ≤ md
  case neg =>
   have t0 : decide (0 ≤ md) = false := decide_eq_false h0
   go_wp2_with fail
   go_meet
   exact ⟨A7, n7, c7, rfl, by rw [← ha9, t0]; simpa [onlyIf] using o7, bk7⟩
  have t0 : decide (0 ≤ md) = true := decide_eq_true h0
  have hmb : md ≤ 4294967295 := HNB.out.1.2
  have hmw : IntKind.u32.wrap md = md := by rw [IntKind.wrap_u32]; omega
  have hmm : md % 4294967296 = md := by omega
  have HM := Lib.hid (And.intro h0 (show md < 4294967296 by omega))
  clear h0 hmb
  go_wp2_with fail
  refine (HP32.out md _ HM.out.1 HM.out.2).mono ?_
  rintro _ w70 ⟨A71, n71, c71, rfl, o71, b70⟩
  have bk70 := btr bk7 b70 bk7.size
  obtain ⟨A70, n70, c70, hA70⟩ : ∃ A n c, A = A7 ∧ n = n7 ∧ c = c7 := ⟨_, _, _, rfl, rfl, rfl⟩
  obtain ⟨rfl, rfl, rfl⟩ := hA70
  have o70 := o7.below b70
  go_wp2_with fail
  refine (refAttr04 A70 n70 c70 a7 128 4 A71 n71 c71 (b32 md) w70 o70.bs (o71.bs) (by omega) (by omega) (by omega) (by omega) (by have := Kl7; omega) (by have := (show (b32 md).length ≤ 2000 by rw [b32_len]; omega); omega)).mono ?_
  rintro _ w72 ⟨A72, n72, c72, rfl, o72, b72⟩
  have bk72 := btr bk70 b72 bk70.size
  have o72 := o72.low (Nat.le_trans hqW bk70.size)
  go_wp2_with fail
  go_meet
  exact ⟨A72, n72, c72, rfl, by rw [← ha9, t0, hmm]; exact o72, bk72⟩
 case rest =>
  obtain ⟨A9, n9, c9, rfl, o9, bk9⟩ := hcut
  obtain ⟨w9, hw9⟩ : ∃ x, x = wc := ⟨_, rfl⟩
  subst hw9
  clear ha9
  have X_9 := hX.below bk9 hXl
  have x4 : w9.cell? ⟨q, 4, none⟩ = some (.int .i64 pf) := X_9.cell 4
  obtain ⟨a11, ha11⟩ : ∃ a, a9 ++ onlyIf (decide (0 ≤ pf)) (attrB 64 5 (b32 (pf % 4294967296))) = a := ⟨_, rfl⟩
  have Kl11 : a11.length ≤ 15000 := by rw [← ha11]; exact only_len Kl9 (by rw [b32_len]; omega)
  have E11 := Lib.hid ha11
  go_upto_if 44 with fail
  go_cut [6] (fun s6 wx => ∃ (A : Option Addr) (n c : Nat), s6 = .slice A n c ∧ OB wx 5 q A n c a11 ∧ Below W.heap.size W wx)
  case first =>
   by_cases h0 : 0 ≤ pf
   case neg =>
    have t0 : decide (0 ≤ pf) = false := decide_eq_false h0
    go_wp2_with fail
    go_meet
    exact ⟨A9, n9, c9, rfl, by rw [← ha11, t0]; simpa [onlyIf] using o9, bk9⟩
   have t0 : decide (0 ≤ pf) = true := decide_eq_true h0
   have hmb : pf ≤ 4294967295 := HNB.out.2.2
   have hmw : IntKind.u32.wrap pf = pf := by rw [IntKind.wrap_u32]; omega
   have hmm : pf % 4294967296 = pf := by omega
   have HM := Lib.hid (And.intro h0 (show pf < 4294967296 by omega))
   clear h0 hmb
   go_wp2_with fail
   refine (HP32.out pf _ HM.out.1 HM.out.2).mono ?_
   rintro _ w90 ⟨A91, n91, c91, rfl, o91, b90⟩
   have bk90 := btr bk9 b90 bk9.size
   obtain ⟨A90, n90, c90, hA90⟩ : ∃ A n c, A = A9 ∧ n = n9 ∧ c = c9 := ⟨_, _, _, rfl, rfl, rfl⟩
   obtain ⟨rfl, rfl, rfl⟩ := hA90
   have o90 := o9.below b90
   go_wp2_with fail
   refine (refAttr04 A90 n90 c90 a9 64 5 A91 n91 c91 (b32 pf) w90 o90.bs (o91.bs) (by omega) (by omega) (by omega) (by omega) (by have := Kl9; omega) (by have := (show (b32 pf).length ≤ 2000 by rw [b32_len]; omega); omega)).mono ?_
   rintro _ w92 ⟨A92, n92, c92, rfl, o92, b92⟩
   have bk92 := btr bk90 b92 bk90.size
   have o92 := o92.low (Nat.le_trans hqW bk90.size)
   go_wp2_with fail
   go_meet
   exact ⟨A92, n92, c92, rfl, by rw [← ha11, t0, hmm]; exact o92, bk92⟩
  case rest =>
   obtain ⟨A11, n11, c11, rfl, o11, bk11⟩ := hcut
   obtain ⟨w11, hw11⟩ : ∃ x, x = wc := ⟨_, rfl⟩
   subst hw11
   clear ha11
   have X_11 := hX.below bk11 hXl
   have x5 : w11.cell? ⟨q, 5, none⟩ = some (.bool at_) := X_11.cell 5
   obtain ⟨a13, ha13⟩ : ∃ a, a11 ++ onlyIf at_ (attrB 64 6 ([])) = a := ⟨_, rfl⟩
   have Kl13 : a13.length ≤ 18000 := by rw [← ha13]; exact only_len Kl11 (by simp)
   have E13 := Lib.hid ha13
   go_upto_if 52 with fail
   go_cut [6] (fun s6 wx => ∃ (A : Option Addr) (n c : Nat), s6 = .slice A n c ∧ OB wx 5 q A n c a13 ∧ Below W.heap.size W wx)
   case first =>
    cases at_
    ·skip
     go_wp2_with fail
     go_meet
     exact ⟨A11, n11, c11, rfl, by rw [← ha13]; simpa [onlyIf] using o11, bk11⟩
    ·skip
     go_wp2_with fail
     refine (refAttr04 A11 n11 c11 a11 64 6 none 0 0 ([]) w11 o11.bs (⟨rfl, Reads.none_⟩) (by omega) (by omega) (by omega) (by omega) (by have := Kl11; omega) (by have := (show ([] : List UInt8).length ≤ 2000 by simp); omega)).mono ?_
     rintro _ w12 ⟨A12, n12, c12, rfl, o12, b12⟩
     have bk12 := btr bk11 b12 bk11.size
     have o12 := o12.low (Nat.le_trans hqW bk11.size)
     go_wp2_with fail
     go_meet
     exact ⟨A12, n12, c12, rfl, by rw [← ha13]; exact o12, bk12⟩
   case rest =>
    obtain ⟨A13, n13, c13, rfl, o13, bk13⟩ := hcut
    obtain ⟨w13, hw13⟩ : ∃ x, x = wc := ⟨_, rfl⟩
    subst hw13
    clear ha13
    have X_13 := hX.below bk13 hXl
    have x6 : w13.cell? ⟨q, 6, none⟩ = some (.bool ha) := X_13.cell 6
    obtain ⟨a15, ha15⟩ : ∃ a, a13 ++ onlyIf ha (attrB 192 7 (asB true gs ++ b32 ga)) = a := ⟨_, rfl⟩
    have Kl15 : a15.length ≤ 21000 := by rw [← ha15]; exact only_len Kl13 (by rw [List.length_append, b32_len]; have := asB_len true gs; omega)
    have E15 := Lib.hid ha15
    go_upto_if 56 with fail
    go_cut [6] (fun s6 wx => ∃ (A : Option Addr) (n c : Nat), s6 = .slice A n c ∧ OB wx 5 q A n c a15 ∧ Below W.heap.size W wx)
    case first =>
     cases ha
     ·skip
      go_wp2_with fail
      go_meet
      exact ⟨A13, n13, c13, rfl, by rw [← ha15]; simpa [onlyIf] using o13, bk13⟩
     ·skip
      have X_13 := hX.below bk13 hXl
      have x7 : w13.cell? ⟨q, 7, none⟩ = some (.int .u32 gs) := X_13.cell 7
      go_wp2_with fail
      refine (HP32.out gs _ HWG.out.1 HWG.out.2).mono ?_
      rintro _ w14 ⟨A14a, n14a, c14a, rfl, o14x, b14⟩
      have o14a : OB w14 5 w13.heap.size A14a n14a c14a (asB true gs) := o14x
      clear x7
      have bk14 := btr bk13 b14 bk13.size
      obtain ⟨A14, n14, c14, hA14⟩ : ∃ A n c, A = A13 ∧ n = n13 ∧ c = c13 := ⟨_, _, _, rfl, rfl, rfl⟩
      obtain ⟨rfl, rfl, rfl⟩ := hA14
      have o14 := o13.below b14
      have X_14 := hX.below bk14 hXl
      have x8 : w14.cell? ⟨q, 8, none⟩ = some (.int .u32 ga) := X_14.cell 8
      go_wp2_with fail
      refine (ref01Put32 A14a n14a c14a (asB true gs) ga _ o14a.bs (by have := asB_len true gs; omega) HWA.out.1 HWA.out.2).mono ?_
      rintro _ w16 ⟨A16a, n16a, c16a, rfl, o16a, b16⟩
      clear x8
      have bk16 := btr bk14 b16 bk14.size
      obtain ⟨A16, n16, c16, hA16⟩ : ∃ A n c, A = A14 ∧ n = n14 ∧ c = c14 := ⟨_, _, _, rfl, rfl, rfl⟩
      obtain ⟨rfl, rfl, rfl⟩ := hA16
      have o16 := o14.below b16
      go_wp2_with fail
      refine (refAttr04 A16 n16 c16 a13 192 7 A16a n16a c16a (asB true gs ++ b32 ga) w16 o16.bs (o16a.bs) (by omega) (by omega) (by omega) (by omega) (by have := Kl13; omega) (by have := (show (asB true gs ++ b32 ga).length ≤ 2000 by rw [List.length_append, b32_len]; have := asB_len true gs; omega); omega)).mono ?_
      rintro _ w17 ⟨A17, n17, c17, rfl, o17, b17⟩
      have bk17 := btr bk16 b17 bk16.size
      have o17 := o17.low (Nat.le_trans hqW bk16.size)
      go_wp2_with fail
      go_meet
      exact ⟨A17, n17, c17, rfl, by rw [← ha15]; exact o17, bk17⟩
    case rest =>
     obtain ⟨A15, n15, c15, rfl, o15, bk15⟩ := hcut
     obtain ⟨w15, hw15⟩ : ∃ x, x = wc := ⟨_, rfl⟩
     subst hw15
     clear ha15
     have HCL := Lib.hid (show (comms.flatMap b32).length ≤ 2000 ∧ comms.length ≤ 32 by have h1 := b32_flat comms; have h2 : comms.length ≤ 32 := HRG.out.2.2.2.2.2.1; omega)
     have X_15 := hX.below bk15 hXl
     have x9 : w15.cell? ⟨q, 9, none⟩ = some (.slice A1 n1 c1) := X_15.cell 9
     obtain ⟨dc, hdc⟩ : ∃ d, decide (0 < n1) = d := ⟨_, rfl⟩
     have hdc' : decide ((0 : Int) < (n1 : Int)) = dc := by rw [← hdc]; exact decide_eq_decide.2 (by omega)
     have HDC := Lib.hid hdc
     obtain ⟨a21, ha21⟩ : ∃ a, a15 ++ onlyIf (decide (0 < comms.length)) (attrB 192 8 (comms.flatMap b32)) = a := ⟨_, rfl⟩
     have Kl21 : a21.length ≤ 24000 := by rw [← ha21]; exact only_len Kl15 (HCL.out.1)
     have E21 := Lib.hid ha21
     go_upto_if 81 with fail
     go_cut [6] (fun s6 wx => ∃ (A : Option Addr) (n c : Nat), s6 = .slice A n c ∧ OB wx 5 q A n c a21 ∧ Below W.heap.size W wx)
     case first =>
      cases dc
      case false =>
       have HD := Lib.hid (show decide (0 < comms.length) = false by rw [← HC.out]; exact HDC.out)
       clear hdc hdc'
       go_wp2_with fail
       go_meet
       exact ⟨A15, n15, c15, rfl, by rw [← ha21, HD.out]; simpa [onlyIf] using o15, bk15⟩
      have HD := Lib.hid (show decide (0 < comms.length) = true by rw [← HC.out]; exact HDC.out)
      clear hdc hdc'
      have hzq := Lib.hid (show q ≤ w15.heap.size from Nat.le_trans hqW bk15.size)
      go_wp2_with fail
      go_loopw [8, 9] (fun x i wr => ∃ (j : Nat) (A5 : Option Addr) (n5 c5 : Nat), j ≤ n1 ∧ i = .int .i64 j ∧ x = .slice A5 n5 c5 ∧ OB wr 5 w15.heap.size A5 n5 c5 ((comms.take j).flatMap b32) ∧ Below w15.heap.size w15 wr) (fun _ i _ => n1 - (intOf i).toNat)
      case atStart => exact ⟨0, none, 0, 0, by omega, rfl, rfl, OB.nil_, Below.refl _ _⟩
      case round =>
       obtain ⟨j, A5, n5, c5, hj, rfl, rfl, o5, b16⟩ := hrel
       have bkr := btr bk15 b16 bk15.size
       have X_r := hX.below bkr hXl
       have x9 : wr.cell? ⟨q, 9, none⟩ = some (.slice A1 n1 c1) := X_r.cell 9
       by_cases hlt : j < n1
       case pos =>
        have d1 : decide ((j : Int) < n1) = true := decide_eq_true (by omega)
        have d1' : decide (j < n1) = true := decide_eq_true hlt
        have hlti : (j : Int) < n1 := by omega
        have hj0 : (0 : Int) ≤ (j : Int) := by omega
        obtain ⟨y, hy⟩ : ∃ y, comms[j]? = some y := ⟨_, List.getElem?_eq_getElem (by have := HC.out; omega)⟩
        have hcr := HCK.out _ bkr
        obtain ⟨b, off, rfl, hbl, k0⟩ := hcr.at_ hy
        obtain ⟨hy0, hy1⟩ := hcr.wf_ hy
        have HY := Lib.hid (b32_take hy)
        have HYB := Lib.hid (show 0 ≤ y ∧ y < 4294967296 by omega)
        have HLN := Lib.hid (show ((comms.take j).flatMap b32).length ≤ 100000 by have h1 := b32_flat (comms.take j); have h2 := HCL.out.2; rw [List.length_take] at h1; omega)
        have wj : IntKind.i64.wrap ((j : Int) + 1) = (j : Int) + 1 := IntWalk.i64_in _ ⟨by omega, by have h1 := HCL.out.2; have h2 := HC.out; omega⟩
        clear hy hy0 hy1 hcr
        go_wp2_with fail
        refine (ref01Put32 A5 n5 c5 _ y _ o5.bs (by have := HLN.out; omega) HYB.out.1 HYB.out.2).mono ?_
        rintro _ w6 ⟨A6, n6, c6, rfl, o6, b6⟩
        go_wp2_with fail
        go_roundw
        case rel => exact ⟨j + 1, A6, n6, c6, by omega, by go_num, rfl, by rw [HY.out]; exact o6.low b16.size, btr b16 b6 b16.size⟩
        case measure => simp [intOf]; omega
       have d1 : decide ((j : Int) < n1) = false := decide_eq_false (by omega)
       have d1' : decide (j < n1) = false := decide_eq_false hlt
       have oC : OB wr 5 w15.heap.size A5 n5 c5 (comms.flatMap b32) := by rw [List.take_of_length_le (by have := HC.out; omega)] at o5; exact o5
       obtain ⟨w16, hw16⟩ : ∃ x, x = wr := ⟨_, rfl⟩
       subst hw16
       clear hlt o5 hj bkr X_r
       have bk16 := btr bk15 b16 bk15.size
       obtain ⟨A16, n16, c16, hA16⟩ : ∃ A n c, A = A15 ∧ n = n15 ∧ c = c15 := ⟨_, _, _, rfl, rfl, rfl⟩
       obtain ⟨rfl, rfl, rfl⟩ := hA16
       have o16 := o15.below b16
       go_wp2_with fail
       refine (refAttr04 A16 n16 c16 a15 192 8 A5 n5 c5 (comms.flatMap b32) w16 o16.bs (oC.bs) (by omega) (by omega) (by omega) (by omega) (by have := Kl15; omega) (by have := (HCL.out.1); omega)).mono ?_
       rintro _ w17 ⟨A17, n17, c17, rfl, o17, b17⟩
       have bk17 := btr bk16 b17 bk16.size
       have o17 := o17.low (Nat.le_trans hqW bk16.size)
       go_wp2_with fail
       go_meet
       exact ⟨A17, n17, c17, rfl, by rw [← ha21, HD.out]; exact o17, bk17⟩
     case rest =>
      obtain ⟨A21, n21, c21, rfl, o21, bk21⟩ := hcut
      obtain ⟨w21, hw21⟩ : ∃ x, x = wc := ⟨_, rfl⟩
      subst hw21
      clear ha21
      go_wp2_with fail
      go_loopw [6, 10] (fun x i wr => ∃ (j : Nat) (A0 : Option Addr) (n0 c0 : Nat) (acc : List UInt8), j ≤ n2 ∧ i = .int .i64 j ∧ x = .slice A0 n0 c0 ∧ OB wr 5 q A0 n0 c0 acc ∧ Below W.heap.size W wr ∧ Hid (acc = a21 ++ (raws.take j).flatMap (fun x => attrB x.1 x.2.1 x.2.2)) ∧ Hid (acc.length ≤ 24000 + 3000 * j)) (fun _ i _ => n2 - (intOf i).toNat)
      case atStart => exact ⟨0, A21, n21, c21, a21, by omega, rfl, rfl, o21, bk21, Lib.hid (by simp), Lib.hid (by have := Kl21; omega)⟩
      case round =>
       obtain ⟨j, A0, n0, c0, acc, hj, rfl, rfl, o0, bkr, HAC, HAL⟩ := hrel
       have X_r := hX.below bkr hXl
       have x10 : wr.cell? ⟨q, 10, none⟩ = some (.slice A2 n2 c2) := X_r.cell 10
       by_cases hlt : j < n2
       case pos =>
        have d1 : decide ((j : Int) < n2) = true := decide_eq_true (by omega)
        have d1' : decide (j < n2) = true := decide_eq_true hlt
        have hlti : (j : Int) < n2 := by omega
        have hj0 : (0 : Int) ≤ (j : Int) := by omega
        have hj8 : n2 ≤ 8 := by have h1 : raws.length ≤ 8 := HRG.out.2.2.2.2.2.2.2; have := HN.out; omega
        obtain ⟨x, hx⟩ := getL HN.out hlt
        have hdr := HDK.out wr bkr
        obtain ⟨b, off, A6, n6, c6, rfl, hbl, k0, k1, k2, hbf, hnc6, wf0, wf1⟩ := hdr.rawAt hx
        have hbl : b < wr.heap.size := hbl
        have HTA := Lib.hid (raws_take hx)
        have HGD := Lib.hid (good_raw HRG.out.2.2.2.2.2.2.1 hx)
        obtain ⟨fl, ty, dat⟩ := x
        simp only at k0 k1
        have wj : IntKind.i64.wrap ((j : Int) + 1) = (j : Int) + 1 := IntWalk.i64_in _ ⟨by omega, by omega⟩
        have hbs : BS wr.drew wr.drew.heap.size A6 n6 dat := hbf.lt
        have hod : OB wr.drew 5 q A0 n0 c0 acc := o0
        have HFL := Lib.hid (show fl = 224 from HGD.out.1)
        have HVL := Lib.hid (show (attrB fl ty dat).length ≤ 3000 by have h1 := attrB_len fl ty dat; have h : dat.length ≤ 64 := HGD.out.2.2.2.1; omega)
        have hqd : q < wr.drew.heap.size := X_r.lt
        have hbd : b < wr.drew.heap.size := hbl
        have ct : wr.drew.cell? ⟨q, 10, none⟩ = some (.slice (some ⟨b, off, none⟩) n2 c2) ∧ wr.drew.cell? ⟨b, off + j * 3 + 1, none⟩ = some (.int .i64 ty) ∧ wr.drew.cell? ⟨b, off + j * 3 + 2, none⟩ = some (.slice A6 n6 c6) := ⟨x10, k1, k2⟩
        clear hx hbf wf0 wf1 hnc6 hdr
        go_upto_region 30 with fail
        clear k0 k1 k2 x10
        rename_i hk
        have HKK := Lib.hid hk
        clear hk
        refine wp_region_held_drew (S := (fun w' => w'.cell? ⟨q, 10, none⟩ = some (.slice (some ⟨b, off, none⟩) n2 c2) ∧ w'.cell? ⟨b, off + j * 3 + 1, none⟩ = some (.int .i64 ty) ∧ w'.cell? ⟨b, off + j * 3 + 2, none⟩ = some (.slice A6 n6 c6))) (by kernel_rfl) ?_ (fun hHeld => ?_)
        ·first | exact ct | exact ct5
        refine tkh 0 (h := ?_)
        try simp only [Act.put, q1, q2, q3, q4, q5, q6]
        refine tkh 1 (h := ?_)
        try simp only [Act.put, q1, q2, q3, q4, q5, q6]
        refine tkh 2 (h := ?_)
        try simp only [Act.put, q1, q2, q3, q4, q5, q6]
        refine tkh 3 (h := ?_)
        try simp only [Act.put, q1, q2, q3, q4, q5, q6]
        refine tkh 4 (h := ?_)
        try simp only [Act.put, q1, q2, q3, q4, q5, q6]
        refine tkh 5 (h := ?_)
        try simp only [Act.put, q1, q2, q3, q4, q5, q6]
        refine tkh 6 (h := ?_)
        try simp only [Act.put, q1, q2, q3, q4, q5, q6]
        refine tkh 7 (h := ?_)
        try simp only [Act.put, q1, q2, q3, q4, q5, q6]
        refine tkh 8 (h := ?_)
        try simp only [Act.put, q1, q2, q3, q4, q5, q6]
        refine tkh 9 (h := ?_)
        try simp only [Act.put, q1, q2, q3, q4, q5, q6]
        refine tkh 10 (h := ?_)
        try simp only [Act.put, q1, q2, q3, q4, q5, q6]
        refine tkh 11 (h := ?_)
        try simp only [Act.put, q1, q2, q3, q4, q5, q6]
        refine tkh 12 (h := ?_)
        try simp only [Act.put, q1, q2, q3, q4, q5, q6]
        refine tkr 13 fun K hK => ?_
        go_simp
        go_wp2_with (go_at_call 138; refine (refAttr04 A0 n0 c0 acc 224 ty A6 n6 c6 dat _ hod.bs hbs (by omega) (by omega) HGD.out.2.1 HGD.out.2.2.1 (by have h1 := HAL.out; omega) (by have h : dat.length ≤ 64 := HGD.out.2.2.2.1; omega)).mono ?_; rintro _ w30 ⟨A30, n30, c30, rfl, o30, b30⟩; have ct5 := And.intro ((b30.cell (p := ⟨q, 10, none⟩) hqd).trans ct.1) (And.intro ((b30.cell (p := ⟨b, off + j * 3 + 1, none⟩) hbd).trans ct.2.1) ((b30.cell (p := ⟨b, off + j * 3 + 2, none⟩) hbd).trans ct.2.2)))
        refine hK.out _ _ ?_ (fun hHeld => ?_)
        ·try dsimp only
         first | exact ct | exact ct5
        clear hK K
        refine tkr 14 fun K hK => ?_
        go_simp
        go_wp2_with (fail)
        refine hK.out _ _ ?_ (fun hHeld => ?_)
        ·try dsimp only
         first | exact ct | exact ct5
        clear hK K
        refine wpAnyH_done (by kernel_rfl) ?_ _
        refine HKK.out _ _ ?_
        have HNX := Lib.hid (show acc ++ attrB 224 ty dat = a21 ++ (raws.take (j + 1)).flatMap (fun x => attrB x.1 x.2.1 x.2.2) by rw [HTA.out, HAC.out, List.append_assoc, HFL.out])
        have HNL := Lib.hid (show (acc ++ attrB 224 ty dat).length ≤ 24000 + 3000 * (j + 1) by have h1 := HAL.out; have h2 := HVL.out; rw [HFL.out] at h2; rw [List.length_append]; omega)
        have bkz := btr bkr ((Below.refl wr.heap.size wr).drew.trans b30) bkr.size
        have oz := o30.low (Nat.le_trans hqW bkr.size)
        clear hHeld ct ct5
        go_wp2_with fail
        go_roundw
        case rel => exact ⟨j + 1, A30, n30, c30, _, by omega, by go_num, rfl, oz, bkz, HNX, HNL⟩
        case measure => simp [intOf]; omega
       have d1 : decide ((j : Int) < n2) = false := decide_eq_false (by omega)
       have d1' : decide (j < n2) = false := decide_eq_false hlt
       have E24 := Lib.hid (show acc = a21 ++ raws.flatMap (fun x => attrB x.1 x.2.1 x.2.2) by have := HAC.out; rwa [List.take_of_length_le (by have := HN.out; omega)] at this)
       have Kl24 : acc.length ≤ 48000 := by have h1 := HAL.out; have h2 : raws.length ≤ 8 := HRG.out.2.2.2.2.2.2.2; have := HN.out; omega
       obtain ⟨w24, hw24⟩ : ∃ w', w' = wr := ⟨_, rfl⟩
       subst hw24
       obtain ⟨A24, n24, c24, h24⟩ : ∃ A n c, A = A0 ∧ n = n0 ∧ c = c0 := ⟨_, _, _, rfl, rfl, rfl⟩
       obtain ⟨rfl, rfl, rfl⟩ := h24
       have o24 := o0
       have bk24 := bkr
       clear hlt hj o0 bkr X_r
       have X_24 := hX.below bk24 hXl
       have x1 : w24.cell? ⟨q, 1, none⟩ = some (.slice A n c) := X_24.cell 1
       go_wp2_with fail
       refine (refFlat03 A n c path _ (HPK.out _ bk24) (by omega) hs).mono ?_
       rintro _ w25 ⟨Af, nf, cf, rfl, of_, b25⟩
       have HNF := Lib.hid of_.1
       have hnf := of_.ns
       have HFB := Lib.hid (show nf ≤ 64 by have h1 := of_.1; have h2 := flatA_len path; have h3 : sumN path ≤ 64 := (rightA_of HRG.out.2.1).2.1; omega)
       clear of_ x1 x10
       have bk25 := btr bk24 b25 bk24.size
       obtain ⟨A25, n25, c25, hA25⟩ : ∃ A n c, A = A24 ∧ n = n24 ∧ c = c24 := ⟨_, _, _, rfl, rfl, rfl⟩
       obtain ⟨rfl, rfl, rfl⟩ := hA25
       have o25 := o24.below b25
       go_wp2_with fail
       go_loopw [11, 13] (fun x i wr => ∃ (j : Nat) (bb : Bool), j ≤ nf ∧ i = .int .i64 j ∧ x = .bool bb ∧ wr = w25 ∧ Hid (bb = bigN ((flatA path).take j))) (fun _ i _ => nf - (intOf i).toNat)
       case atStart => exact ⟨0, false, by omega, rfl, rfl, rfl, Lib.hid (by simp [bigN])⟩
       case round =>
        obtain ⟨j, bb, hj, rfl, rfl, rfl, HBB⟩ := hrel
        by_cases hlt : j < nf
        case pos =>
         have d2 : decide ((j : Int) < nf) = true := decide_eq_true (by omega)
         have d2' : decide (j < nf) = true := decide_eq_true hlt
         have hlti : (j : Int) < nf := by omega
         have hj0 : (0 : Int) ≤ (j : Int) := by omega
         obtain ⟨y, hy⟩ : ∃ y, (flatA path)[j]? = some y := ⟨_, List.getElem?_eq_getElem (by have := HNF.out; omega)⟩
         obtain ⟨b, off, rfl, hbw, hcw⟩ := hnf.form hlt
         rw [hy, Option.getD_some] at hcw
         have HST := Lib.hid (show bigN ((flatA path).take (j + 1)) = (bb || decide (65535 < y)) by
          rw [List.take_succ_eq_append_getElem (List.getElem?_eq_some_iff.1 hy).1, (List.getElem?_eq_some_iff.1 hy).2, HBB.out]
          unfold bigN
          rw [List.any_append]
          simp)
         have wj : IntKind.i64.wrap ((j : Int) + 1) = (j : Int) + 1 := IntWalk.i64_in _ ⟨by omega, by have h1 := HFB.out; omega⟩
         clear hy
         cases bb
         ·obtain ⟨r, hr⟩ : ∃ r, decide (65535 < y) = r := ⟨_, rfl⟩
          have HSN := Lib.hid (show r = bigN ((flatA path).take (j + 1)) by rw [HST.out, hr]; rfl)
          go_wp2_with fail
          go_roundw
          case rel => exact ⟨j + 1, r, by omega, by go_num, (by first | rfl | rw [hr]), (by first | rfl | trivial), HSN⟩
          case measure => simp [intOf]; omega
         ·have HSN := Lib.hid (show true = bigN ((flatA path).take (j + 1)) by rw [HST.out]; rfl)
          go_wp2_with fail
          go_roundw
          case rel => exact ⟨j + 1, true, by omega, by go_num, rfl, (by first | rfl | trivial), HSN⟩
          case measure => simp [intOf]; omega
        have d2 : decide ((j : Int) < nf) = false := decide_eq_false (by omega)
        have d2' : decide (j < nf) = false := decide_eq_false hlt
        have HBN := Lib.hid (show bigN (flatA path) = bb by have := HBB.out; rw [List.take_of_length_le (by have := HNF.out; omega)] at this; exact this.symm)
        obtain ⟨w26, hw26⟩ : ∃ w', w' = wr := ⟨_, rfl⟩
        subst hw26
        obtain ⟨A26, n26, c26, h26⟩ : ∃ A n c, A = A25 ∧ n = n25 ∧ c = c25 := ⟨_, _, _, rfl, rfl, rfl⟩
        obtain ⟨rfl, rfl, rfl⟩ := h26
        have o26 := o25
        have bk26 := bk25
        clear hlt hj o24 o25 b25 hnf
        obtain ⟨bg, hbg⟩ : ∃ bg, decide (65535 < gs) = bg := ⟨_, rfl⟩
        have HBG := Lib.hid hbg
        obtain ⟨a28, ha28⟩ : ∃ a, acc ++ onlyIf false (attrB 192 17 (putA true path)) = a := ⟨_, rfl⟩
        have E28 := Lib.hid ha28
        have Kl28 : a28.length ≤ 51000 := by rw [← ha28]; exact only_len Kl24 HPL.out.2
        have o26 : OB w26 5 q A26 n26 c26 a28 := by rw [← ha28, only_no]; exact o26
        clear ha28
        have X_26 := hX.below bk26 hXl
        have x7 : w26.cell? ⟨q, 7, none⟩ = some (.int .u32 gs) := X_26.cell 7
        have x8 : w26.cell? ⟨q, 8, none⟩ = some (.int .u32 ga) := X_26.cell 8
        obtain ⟨a32, ha32⟩ : ∃ a, a28 ++ onlyIf false (attrB 192 18 (b32 gs ++ b32 ga)) = a := ⟨_, rfl⟩
        have E32 := Lib.hid ha32
        have o32 : OB w26 5 q A26 n26 c26 a32 := by rw [← ha32, only_no]; exact o26
        clear ha32
        have HAL2 := Lib.hid (show attsB true (⟨o, path, nx, md, pf, at_, ha, gs, ga, comms, raws⟩ : At) = a32 by
         rw [← E32.out, ← E28.out, E24.out, ← E21.out, ← E15.out, ← E13.out, ← E11.out, ← E9.out, ← E7.out, ← E5.out, ← E3.out]
         unfold attsB
         simp only [HBN.out, HBG.out]
         simp [onlyIf])
        go_wp2_with fail
        go_ret2
        exact ⟨A26, n26, c26, by rw [HP.out]; rfl, by rw [HP.out, HAL2.out]; exact o32.low (Nat.le_of_eq HQ.out), btr hBW.out bk26 hBW.out.size⟩
def listP (l : List Pfx) : List UInt8 × Bool := if l.all okQ = true then (pfxB l, true) else ([], false)
def RetL (w : World) (l : List UInt8) (x : Bool) (e : Ending) (w' : World) : Prop := ∃ (A : Option Addr) (n c : Nat), e = .returned (.tuple #[.slice A n c, .bool x]) ∧ OB w' 5 w.heap.size A n c l ∧ Below w.heap.size w w'
theorem ref02PutY (A : Option Addr) (n c : Nat) (l : List UInt8) (p : Pfx) (ha : p.1 < 4294967296) (w : World) (h : BS w w.heap.size A n l) (hn : n ≤ 100000) (hr : okQ p = true) :
  Calls Tryz.prog 137 #[.slice A n c, .agg #[.int .u32 (p.1 : Int), .int .i64 p.2]] w (RetPut w (l ++ pB p) 0) := by
 obtain ⟨k, hk, h32, _⟩ := okQ_of hr
 obtain ⟨a, m⟩ := p
 simp only at hk ha
 subst hk
 have := ref02Put_yes A n c l a ha k h32 w h hn hr
 unfold pB
 exact this
theorem ref02PutN (A : Option Addr) (n c : Nat) (p : Pfx) (ha : p.1 < 4294967296) (w : World) (hr : okQ p = false) :
  Calls Tryz.prog 137 #[.slice A n c, .agg #[.int .u32 (p.1 : Int), .int .i64 p.2]] w (RetPut w [] 1) := ref02Put_no A n c p.1 ha p.2 w hr
set_option maxHeartbeats 2000000 in
set_option maxRecDepth 100000 in
theorem refList05 (A : Option Addr) (n c : Nat) (l : List Pfx) (w : World) (hd : DL rPfx 2 w (Lo w) A n l) (hn : n ≤ 10000) :
  Calls Tryz.prog 83 #[.slice A n c] w (RetL w (listP l).1 (listP l).2) := by
 have HN := Lib.hid hd.len
 go_enter Tryz.func83, Tryz.ntmps83
 go_wp2_with fail
 go_loopw [4, 5] (fun o i wr => ∃ (j : Nat) (A1 : Option Addr) (m1 c1 : Nat), j ≤ n ∧ i = .int .i64 j ∧ o = .slice A1 m1 c1 ∧ OB wr 5 w.heap.size A1 m1 c1 (pfxB (l.take j)) ∧ Hid ((l.take j).all okQ = true) ∧ Below w.heap.size w wr) (fun _ i _ => n - (intOf i).toNat)
 case atStart => exact ⟨0, none, 0, 0, by omega, rfl, rfl, by simpa [pfxB] using OB.nil_, Lib.hid (by simp), Below.refl _ _⟩
 case round =>
  obtain ⟨j, A1, m1, c1, hj, rfl, rfl, o1, HK, hb⟩ := hrel
  by_cases hlt : j < n
  ·obtain ⟨p, hp⟩ : ∃ p, l[j]? = some p := ⟨_, List.getElem?_eq_getElem (by have := HN.out; omega)⟩
   have e2 : decide ((j : Int) < n) = true := decide_eq_true (by omega)
   obtain ⟨b, off, rfl, hbl, k0, k1, hpa, hpw⟩ := (hd.keep rPfx_ok (Kp.call hb)).pfxAt hp
   have wj : IntKind.i64.wrap ((j : Int) + 1) = (j : Int) + 1 := IntWalk.i64_in _ ⟨by omega, by omega⟩
   have HT := Lib.hid (pfxB_take hp)
   have HA := Lib.hid (okAll_take hp)
   have HF := Lib.hid (fun h => okAll_not (l := l) hp h)
   have hPl : m1 ≤ 100000 := by
    have h1 := pfxB_len (l.take j)
    have h2 := o1.1
    rw [List.length_take] at h1
    omega
   clear hp
   obtain ⟨P, hP⟩ : ∃ P, pfxB (l.take j) = P := ⟨_, rfl⟩
   rw [hP] at o1 HT
   clear hP
   have o2 := o1.bs
   cases hk : okQ p
   ·have HE := Lib.hid (show listP l = ([], false) by unfold listP; rw [HF.out hk]; rfl)
    go_wp2_with fail
    refine (ref02PutN A1 m1 c1 p hpa _ hk).mono ?_
    rintro _ w2 ⟨A2, n2, c2, rfl, o3, b2⟩
    have b02 := btr hb b2 hb.size
    go_wp2_with fail
    go_ret2
    rw [HE.out]
    exact ⟨none, 0, 0, rfl, OB.nil_, b02⟩
   ·go_wp2_with fail
    refine (ref02PutY A1 m1 c1 P p hpa _ o2 hPl hk).mono ?_
    rintro _ w2 ⟨A2, n2, c2, rfl, o3, b2⟩
    have b02 := btr hb b2 hb.size
    have o4 := o3.low (base' := w.heap.size) hb.size
    have HK2 := Lib.hid (show (l.take (j + 1)).all okQ = true by rw [HA.out, HK.out, hk]; rfl)
    clear o2 o3
    go_wp2_with fail
    go_roundw
    case rel => exact ⟨j + 1, A2, n2, c2, by omega, by go_num, rfl, by rw [HT.out]; exact o4, HK2, b02⟩
    case measure => simp [intOf]; omega
  ·have e2 : decide ((j : Int) < n) = false := decide_eq_false (by omega)
   have HL := Lib.hid (show l.take j = l from List.take_of_length_le (by have := HN.out; omega))
   have HE := Lib.hid (show listP l = (pfxB l, true) by
    have := HK.out
    rw [HL.out] at this
    unfold listP
    rw [if_pos this])
   go_wp2_with fail
   go_ret2
   rw [HE.out]
   exact ⟨A1, m1, c1, rfl, by rw [← HL.out]; exact o1, hb⟩
theorem listP_no {l : List Pfx} (h : l.all okQ = false) : listP l = ([], false) := by unfold listP; rw [if_neg (by rw [h]; decide)]
theorem listP_yes {l : List Pfx} (h : l.all okQ = true) : listP l = (pfxB l, true) := by unfold listP; rw [if_pos h]
theorem refPut04U (o : Int) (A : Option Addr) (n c : Nat) (path : List Seg) (nx md pf : Int) (at_ ha : Bool) (gs ga : Int) (A1 : Option Addr) (n1 c1 : Nat) (comms : List Int) (A2 : Option Addr) (n2 c2 : Nat) (raws : List RawV) (w : World) (hp : DL rSeg 2 w (Lo w) A n path) (hc : NF w (Lo w) A1 n1 comms) (hd : DL rRaw 3 w (Lo w) A2 n2 raws) (hn : n ≤ 12) (hs : Hid (sumN path ≤ big32)) (hn2 : n2 ≤ 100000) (hw : Hid (0 ≤ nx ∧ nx < 4294967296 ∧ 0 ≤ gs ∧ gs < 4294967296 ∧ 0 ≤ ga ∧ ga < 4294967296)) :
  Calls Tryz.prog 84 #[.agg #[.int .i64 o, .slice A n c, .int .u32 nx, .int .i64 md, .int .i64 pf, .bool at_, .bool ha, .int .u32 gs, .int .u32 ga, .slice A1 n1 c1, .slice A2 n2 c2], .bool true] w (RetPE w (putAt true (⟨o, path, nx, md, pf, at_, ha, gs, ga, comms, raws⟩ : At))) := by
 exact refPut04_wide o A n c path nx md pf at_ ha gs ga A1 n1 c1 comms A2 n2 c2 raws w hp hc hd hn hs hn2 hw
set_option maxHeartbeats 4000000 in
set_option maxRecDepth 100000 in
theorem refPut05_g (Ag : Option Addr) (ng cg : Nat) (gone : List Pfx) (o : Int) (A : Option Addr) (n c : Nat) (path : List Seg) (nx md pf : Int) (at_ ha : Bool) (gs ga : Int) (A1 : Option Addr) (n1 c1 : Nat) (comms : List Int) (A2 : Option Addr) (n2 c2 : Nat) (raws : List RawV) (An : Option Addr) (nn cn : Nat) (news : List Pfx) (w : World) (hg : DL rPfx 2 w (Lo w) Ag ng gone) (hp : DL rSeg 2 w (Lo w) A n path) (hc : NF w (Lo w) A1 n1 comms) (hd : DL rRaw 3 w (Lo w) A2 n2 raws) (hm : DL rPfx 2 w (Lo w) An nn news) (hs : Hid (sumN path ≤ big32)) (hw : Hid (0 ≤ nx ∧ nx < 4294967296 ∧ 0 ≤ gs ∧ gs < 4294967296 ∧ 0 ≤ ga ∧ ga < 4294967296)) (hz : n ≤ 12 ∧ n2 ≤ 100000 ∧ ng ≤ 10000 ∧ nn ≤ 10000) (hg1 : gone.all okQ = false) :
  Calls Tryz.prog 37 #[.agg #[.slice Ag ng cg, .int .i64 o, .slice A n c, .int .u32 nx, .int .i64 md, .int .i64 pf, .bool at_, .bool ha, .int .u32 gs, .int .u32 ga, .slice A1 n1 c1, .slice A2 n2 c2, .slice An nn cn], .bool true] w (RetPut w [] 1) := by
 obtain ⟨LM, hLM⟩ : ∃ x, listP news = x := ⟨_, rfl⟩
 have HG := Lib.hid (show ∀ w', DL rPfx 2 w' (Lo w') Ag ng gone → Calls Tryz.prog 83 #[.slice Ag ng cg] w' (RetL w' [] false) from fun w' h => by
  have := refList05 Ag ng cg gone w' h hz.2.2.1
  rw [listP_no hg1] at this
  exact this)
 have HM := Lib.hid (show ∀ w', DL rPfx 2 w' (Lo w') An nn news → Calls Tryz.prog 83 #[.slice An nn cn] w' (RetL w' LM.1 LM.2) from fun w' h => by
  have := refList05 An nn cn news w' h hz.2.2.2
  rw [hLM] at this
  exact this)
 clear hs hw hg1 hLM
 obtain ⟨W, hW, hX, b0⟩ := box1c w #[.slice Ag ng cg, .int .i64 o, .slice A n c, .int .u32 nx, .int .i64 md, .int .i64 pf, .bool at_, .bool ha, .int .u32 gs, .int .u32 ga, .slice A1 n1 c1, .slice A2 n2 c2, .slice An nn cn] 77
 go_enter Tryz.func37, Tryz.ntmps37
 go_upto_region 1 with fail
 try rw [hW]
 obtain ⟨q, hq⟩ : ∃ q, w.heap.size = q := ⟨_, rfl⟩
 try rw [hq]
 rw [hq] at hX
 have HQ := Lib.hid hq
 clear hW hq
 have c_hX0 := hX.cell 0
 have c_hX1 := hX.cell 1
 have c_hX2 := hX.cell 2
 have c_hX3 := hX.cell 3
 have c_hX4 := hX.cell 4
 have c_hX5 := hX.cell 5
 have c_hX6 := hX.cell 6
 have c_hX7 := hX.cell 7
 have c_hX8 := hX.cell 8
 have c_hX9 := hX.cell 9
 have c_hX10 := hX.cell 10
 have c_hX11 := hX.cell 11
 have c_hX12 := hX.cell 12
 go_wp2_with fail
 refine (HG.out _ (hg.pfxB5 b0)).mono ?_
 rintro _ w1 ⟨A3, n3, c3, rfl, o3, b1⟩
 clear c_hX0 c_hX1 c_hX2 c_hX3 c_hX4 c_hX5 c_hX6 c_hX7 c_hX8 c_hX9 c_hX10 c_hX11 c_hX12
 have b01 := btr b0 b1 b0.size
 have hX_1 := hX.below b1 hX.lt
 have c_hX0 := hX_1.cell 0
 have c_hX1 := hX_1.cell 1
 have c_hX2 := hX_1.cell 2
 have c_hX3 := hX_1.cell 3
 have c_hX4 := hX_1.cell 4
 have c_hX5 := hX_1.cell 5
 have c_hX6 := hX_1.cell 6
 have c_hX7 := hX_1.cell 7
 have c_hX8 := hX_1.cell 8
 have c_hX9 := hX_1.cell 9
 have c_hX10 := hX_1.cell 10
 have c_hX11 := hX_1.cell 11
 have c_hX12 := hX_1.cell 12
 have s3 := o3.bs
 go_wp2_with fail
 refine (HM.out _ (hm.pfxB5 b01)).mono ?_
 rintro _ w2 ⟨A4, n4, c4, rfl, o4, b2⟩
 clear c_hX0 c_hX1 c_hX2 c_hX3 c_hX4 c_hX5 c_hX6 c_hX7 c_hX8 c_hX9 c_hX10 c_hX11 c_hX12
 have b02 := btr b01 b2 b01.size
 have hX_2 := hX_1.below b2 hX_1.lt
 clear hX_1
 have s3_2 := s3.call b2
 have c_hX0 := hX_2.cell 0
 have c_hX1 := hX_2.cell 1
 have c_hX2 := hX_2.cell 2
 have c_hX3 := hX_2.cell 3
 have c_hX4 := hX_2.cell 4
 have c_hX5 := hX_2.cell 5
 have c_hX6 := hX_2.cell 6
 have c_hX7 := hX_2.cell 7
 have c_hX8 := hX_2.cell 8
 have c_hX9 := hX_2.cell 9
 have c_hX10 := hX_2.cell 10
 have c_hX11 := hX_2.cell 11
 have c_hX12 := hX_2.cell 12
 go_wp2_with fail
 go_ret2
 exact ⟨none, 0, 0, rfl, OB.nil_, b02⟩
set_option maxHeartbeats 4000000 in
set_option maxRecDepth 100000 in
theorem refPut05_m (Ag : Option Addr) (ng cg : Nat) (gone : List Pfx) (o : Int) (A : Option Addr) (n c : Nat) (path : List Seg) (nx md pf : Int) (at_ ha : Bool) (gs ga : Int) (A1 : Option Addr) (n1 c1 : Nat) (comms : List Int) (A2 : Option Addr) (n2 c2 : Nat) (raws : List RawV) (An : Option Addr) (nn cn : Nat) (news : List Pfx) (w : World) (hg : DL rPfx 2 w (Lo w) Ag ng gone) (hp : DL rSeg 2 w (Lo w) A n path) (hc : NF w (Lo w) A1 n1 comms) (hd : DL rRaw 3 w (Lo w) A2 n2 raws) (hm : DL rPfx 2 w (Lo w) An nn news) (hs : Hid (sumN path ≤ big32)) (hw : Hid (0 ≤ nx ∧ nx < 4294967296 ∧ 0 ≤ gs ∧ gs < 4294967296 ∧ 0 ≤ ga ∧ ga < 4294967296)) (hz : n ≤ 12 ∧ n2 ≤ 100000 ∧ ng ≤ 10000 ∧ nn ≤ 10000) (hg1 : gone.all okQ = true) (hm1 : news.all okQ = false) :
  Calls Tryz.prog 37 #[.agg #[.slice Ag ng cg, .int .i64 o, .slice A n c, .int .u32 nx, .int .i64 md, .int .i64 pf, .bool at_, .bool ha, .int .u32 gs, .int .u32 ga, .slice A1 n1 c1, .slice A2 n2 c2, .slice An nn cn], .bool true] w (RetPut w [] 1) := by
 have HG := Lib.hid (show ∀ w', DL rPfx 2 w' (Lo w') Ag ng gone → Calls Tryz.prog 83 #[.slice Ag ng cg] w' (RetL w' (pfxB gone) true) from fun w' h => by
  have := refList05 Ag ng cg gone w' h hz.2.2.1
  rw [listP_yes hg1] at this
  exact this)
 have HM := Lib.hid (show ∀ w', DL rPfx 2 w' (Lo w') An nn news → Calls Tryz.prog 83 #[.slice An nn cn] w' (RetL w' [] false) from fun w' h => by
  have := refList05 An nn cn news w' h hz.2.2.2
  rw [listP_no hm1] at this
  exact this)
 clear hs hw hg1 hm1
 obtain ⟨W, hW, hX, b0⟩ := box1c w #[.slice Ag ng cg, .int .i64 o, .slice A n c, .int .u32 nx, .int .i64 md, .int .i64 pf, .bool at_, .bool ha, .int .u32 gs, .int .u32 ga, .slice A1 n1 c1, .slice A2 n2 c2, .slice An nn cn] 77
 go_enter Tryz.func37, Tryz.ntmps37
 go_upto_region 1 with fail
 try rw [hW]
 obtain ⟨q, hq⟩ : ∃ q, w.heap.size = q := ⟨_, rfl⟩
 try rw [hq]
 rw [hq] at hX
 have HQ := Lib.hid hq
 clear hW hq
 have c_hX0 := hX.cell 0
 have c_hX1 := hX.cell 1
 have c_hX2 := hX.cell 2
 have c_hX3 := hX.cell 3
 have c_hX4 := hX.cell 4
 have c_hX5 := hX.cell 5
 have c_hX6 := hX.cell 6
 have c_hX7 := hX.cell 7
 have c_hX8 := hX.cell 8
 have c_hX9 := hX.cell 9
 have c_hX10 := hX.cell 10
 have c_hX11 := hX.cell 11
 have c_hX12 := hX.cell 12
 go_wp2_with fail
 refine (HG.out _ (hg.pfxB5 b0)).mono ?_
 rintro _ w1 ⟨A3, n3, c3, rfl, o3, b1⟩
 clear c_hX0 c_hX1 c_hX2 c_hX3 c_hX4 c_hX5 c_hX6 c_hX7 c_hX8 c_hX9 c_hX10 c_hX11 c_hX12
 have b01 := btr b0 b1 b0.size
 have hX_1 := hX.below b1 hX.lt
 have c_hX0 := hX_1.cell 0
 have c_hX1 := hX_1.cell 1
 have c_hX2 := hX_1.cell 2
 have c_hX3 := hX_1.cell 3
 have c_hX4 := hX_1.cell 4
 have c_hX5 := hX_1.cell 5
 have c_hX6 := hX_1.cell 6
 have c_hX7 := hX_1.cell 7
 have c_hX8 := hX_1.cell 8
 have c_hX9 := hX_1.cell 9
 have c_hX10 := hX_1.cell 10
 have c_hX11 := hX_1.cell 11
 have c_hX12 := hX_1.cell 12
 have s3 := o3.bs
 go_wp2_with fail
 refine (HM.out _ (hm.pfxB5 b01)).mono ?_
 rintro _ w2 ⟨A4, n4, c4, rfl, o4, b2⟩
 clear c_hX0 c_hX1 c_hX2 c_hX3 c_hX4 c_hX5 c_hX6 c_hX7 c_hX8 c_hX9 c_hX10 c_hX11 c_hX12
 have b02 := btr b01 b2 b01.size
 have hX_2 := hX_1.below b2 hX_1.lt
 clear hX_1
 have s3_2 := s3.call b2
 have c_hX0 := hX_2.cell 0
 have c_hX1 := hX_2.cell 1
 have c_hX2 := hX_2.cell 2
 have c_hX3 := hX_2.cell 3
 have c_hX4 := hX_2.cell 4
 have c_hX5 := hX_2.cell 5
 have c_hX6 := hX_2.cell 6
 have c_hX7 := hX_2.cell 7
 have c_hX8 := hX_2.cell 8
 have c_hX9 := hX_2.cell 9
 have c_hX10 := hX_2.cell 10
 have c_hX11 := hX_2.cell 11
 have c_hX12 := hX_2.cell 12
 have s4 := o4.bs
 go_wp2_with fail
 go_ret2
 exact ⟨none, 0, 0, rfl, OB.nil_, b02⟩
set_option maxHeartbeats 4000000 in
set_option maxRecDepth 100000 in
theorem refPut05_r (Ag : Option Addr) (ng cg : Nat) (gone : List Pfx) (o : Int) (A : Option Addr) (n c : Nat) (path : List Seg) (nx md pf : Int) (at_ ha : Bool) (gs ga : Int) (A1 : Option Addr) (n1 c1 : Nat) (comms : List Int) (A2 : Option Addr) (n2 c2 : Nat) (raws : List RawV) (An : Option Addr) (nn cn : Nat) (news : List Pfx) (w : World) (hg : DL rPfx 2 w (Lo w) Ag ng gone) (hp : DL rSeg 2 w (Lo w) A n path) (hc : NF w (Lo w) A1 n1 comms) (hd : DL rRaw 3 w (Lo w) A2 n2 raws) (hm : DL rPfx 2 w (Lo w) An nn news) (hs : Hid (sumN path ≤ big32)) (hw : Hid (0 ≤ nx ∧ nx < 4294967296 ∧ 0 ≤ gs ∧ gs < 4294967296 ∧ 0 ≤ ga ∧ ga < 4294967296)) (hz : n ≤ 12 ∧ n2 ≤ 100000 ∧ ng ≤ 10000 ∧ nn ≤ 10000) (hg1 : gone.all okQ = true) (hm1 : news.all okQ = true) (hn0 : ¬ news.length = 0) (hr1 : rightAt (⟨o, path, nx, md, pf, at_, ha, gs, ga, comms, raws⟩ : At) = false) :
  Calls Tryz.prog 37 #[.agg #[.slice Ag ng cg, .int .i64 o, .slice A n c, .int .u32 nx, .int .i64 md, .int .i64 pf, .bool at_, .bool ha, .int .u32 gs, .int .u32 ga, .slice A1 n1 c1, .slice A2 n2 c2, .slice An nn cn], .bool true] w (RetPut w [] 1) := by
 have tz : decide (0 < nn) = true := decide_eq_true (by have := hm.len; omega)
 have HG := Lib.hid (show ∀ w', DL rPfx 2 w' (Lo w') Ag ng gone → Calls Tryz.prog 83 #[.slice Ag ng cg] w' (RetL w' (pfxB gone) true) from fun w' h => by
  have := refList05 Ag ng cg gone w' h hz.2.2.1
  rw [listP_yes hg1] at this
  exact this)
 have HM := Lib.hid (show ∀ w', DL rPfx 2 w' (Lo w') An nn news → Calls Tryz.prog 83 #[.slice An nn cn] w' (RetL w' (pfxB news) true) from fun w' h => by
  have := refList05 An nn cn news w' h hz.2.2.2
  rw [listP_yes hm1] at this
  exact this)
 have HP := Lib.hid (show ∀ w', DL rSeg 2 w' (Lo w') A n path → NF w' (Lo w') A1 n1 comms → DL rRaw 3 w' (Lo w') A2 n2 raws → Calls Tryz.prog 84 #[.agg #[.int .i64 o, .slice A n c, .int .u32 nx, .int .i64 md, .int .i64 pf, .bool at_, .bool ha, .int .u32 gs, .int .u32 ga, .slice A1 n1 c1, .slice A2 n2 c2], .bool true] w' (RetPE w' ([], 1)) from fun w' h1 h2 h3 => by
  have := refPut04U o A n c path nx md pf at_ ha gs ga A1 n1 c1 comms A2 n2 c2 raws w' h1 h2 h3 hz.1 hs hz.2.1 hw
  rw [show putAt true (⟨o, path, nx, md, pf, at_, ha, gs, ga, comms, raws⟩ : At) = ([], 1) from if_neg (by rw [hr1]; decide)] at this
  exact this)
 clear hs hw hg1 hm1 hn0 hr1
 obtain ⟨W, hW, hX, b0⟩ := box1c w #[.slice Ag ng cg, .int .i64 o, .slice A n c, .int .u32 nx, .int .i64 md, .int .i64 pf, .bool at_, .bool ha, .int .u32 gs, .int .u32 ga, .slice A1 n1 c1, .slice A2 n2 c2, .slice An nn cn] 77
 go_enter Tryz.func37, Tryz.ntmps37
 go_upto_region 1 with fail
 try rw [hW]
 obtain ⟨q, hq⟩ : ∃ q, w.heap.size = q := ⟨_, rfl⟩
 try rw [hq]
 rw [hq] at hX
 have HQ := Lib.hid hq
 clear hW hq
 have c_hX0 := hX.cell 0
 have c_hX1 := hX.cell 1
 have c_hX2 := hX.cell 2
 have c_hX3 := hX.cell 3
 have c_hX4 := hX.cell 4
 have c_hX5 := hX.cell 5
 have c_hX6 := hX.cell 6
 have c_hX7 := hX.cell 7
 have c_hX8 := hX.cell 8
 have c_hX9 := hX.cell 9
 have c_hX10 := hX.cell 10
 have c_hX11 := hX.cell 11
 have c_hX12 := hX.cell 12
 go_wp2_with fail
 refine (HG.out _ (hg.pfxB5 b0)).mono ?_
 rintro _ w1 ⟨A3, n3, c3, rfl, o3, b1⟩
 clear c_hX0 c_hX1 c_hX2 c_hX3 c_hX4 c_hX5 c_hX6 c_hX7 c_hX8 c_hX9 c_hX10 c_hX11 c_hX12
 have b01 := btr b0 b1 b0.size
 have hX_1 := hX.below b1 hX.lt
 have c_hX0 := hX_1.cell 0
 have c_hX1 := hX_1.cell 1
 have c_hX2 := hX_1.cell 2
 have c_hX3 := hX_1.cell 3
 have c_hX4 := hX_1.cell 4
 have c_hX5 := hX_1.cell 5
 have c_hX6 := hX_1.cell 6
 have c_hX7 := hX_1.cell 7
 have c_hX8 := hX_1.cell 8
 have c_hX9 := hX_1.cell 9
 have c_hX10 := hX_1.cell 10
 have c_hX11 := hX_1.cell 11
 have c_hX12 := hX_1.cell 12
 have s3 := o3.bs
 go_wp2_with fail
 refine (HM.out _ (hm.pfxB5 b01)).mono ?_
 rintro _ w2 ⟨A4, n4, c4, rfl, o4, b2⟩
 clear c_hX0 c_hX1 c_hX2 c_hX3 c_hX4 c_hX5 c_hX6 c_hX7 c_hX8 c_hX9 c_hX10 c_hX11 c_hX12
 have b02 := btr b01 b2 b01.size
 have hX_2 := hX_1.below b2 hX_1.lt
 clear hX_1
 have s3_2 := s3.call b2
 have c_hX0 := hX_2.cell 0
 have c_hX1 := hX_2.cell 1
 have c_hX2 := hX_2.cell 2
 have c_hX3 := hX_2.cell 3
 have c_hX4 := hX_2.cell 4
 have c_hX5 := hX_2.cell 5
 have c_hX6 := hX_2.cell 6
 have c_hX7 := hX_2.cell 7
 have c_hX8 := hX_2.cell 8
 have c_hX9 := hX_2.cell 9
 have c_hX10 := hX_2.cell 10
 have c_hX11 := hX_2.cell 11
 have c_hX12 := hX_2.cell 12
 have s4 := o4.bs
 go_wp2_with fail
 refine (HP.out _ (hp.segB5 b02) (hc.numB5 b02) (hd.rawB5 b02)).mono ?_
 rintro _ w3 ⟨A5, n5, c5, rfl, o5, b3⟩
 clear c_hX0 c_hX1 c_hX2 c_hX3 c_hX4 c_hX5 c_hX6 c_hX7 c_hX8 c_hX9 c_hX10 c_hX11 c_hX12
 have b03 := btr b02 b3 b02.size
 have hX_3 := hX_2.below b3 hX_2.lt
 clear hX_2
 have s3_3 := s3_2.call b3
 clear s3_2
 have s4_3 := s4.call b3
 have c_hX0 := hX_3.cell 0
 have c_hX1 := hX_3.cell 1
 have c_hX2 := hX_3.cell 2
 have c_hX3 := hX_3.cell 3
 have c_hX4 := hX_3.cell 4
 have c_hX5 := hX_3.cell 5
 have c_hX6 := hX_3.cell 6
 have c_hX7 := hX_3.cell 7
 have c_hX8 := hX_3.cell 8
 have c_hX9 := hX_3.cell 9
 have c_hX10 := hX_3.cell 10
 have c_hX11 := hX_3.cell 11
 have c_hX12 := hX_3.cell 12
 have s5 := o5.bs
 go_wp2_with fail
 go_ret2
 exact ⟨none, 0, 0, rfl, OB.nil_, b03⟩
set_option maxHeartbeats 4000000 in
set_option maxRecDepth 100000 in
theorem refPut05_0 (Ag : Option Addr) (ng cg : Nat) (gone : List Pfx) (o : Int) (A : Option Addr) (n c : Nat) (path : List Seg) (nx md pf : Int) (at_ ha : Bool) (gs ga : Int) (A1 : Option Addr) (n1 c1 : Nat) (comms : List Int) (A2 : Option Addr) (n2 c2 : Nat) (raws : List RawV) (An : Option Addr) (nn cn : Nat) (news : List Pfx) (w : World) (hg : DL rPfx 2 w (Lo w) Ag ng gone) (hp : DL rSeg 2 w (Lo w) A n path) (hc : NF w (Lo w) A1 n1 comms) (hd : DL rRaw 3 w (Lo w) A2 n2 raws) (hm : DL rPfx 2 w (Lo w) An nn news) (hs : Hid (sumN path ≤ big32)) (hw : Hid (0 ≤ nx ∧ nx < 4294967296 ∧ 0 ≤ gs ∧ gs < 4294967296 ∧ 0 ≤ ga ∧ ga < 4294967296)) (hz : n ≤ 12 ∧ n2 ≤ 100000 ∧ ng ≤ 10000 ∧ nn ≤ 10000) (hg1 : gone.all okQ = true) (hm1 : news.all okQ = true) (hn0 : news.length = 0) :
  Calls Tryz.prog 37 #[.agg #[.slice Ag ng cg, .int .i64 o, .slice A n c, .int .u32 nx, .int .i64 md, .int .i64 pf, .bool at_, .bool ha, .int .u32 gs, .int .u32 ga, .slice A1 n1 c1, .slice A2 n2 c2, .slice An nn cn], .bool true] w (RetPut w (updPut true (⟨gone, ⟨o, path, nx, md, pf, at_, ha, gs, ga, comms, raws⟩, news⟩ : Upd)).1 (updPut true (⟨gone, ⟨o, path, nx, md, pf, at_, ha, gs, ga, comms, raws⟩, news⟩ : Upd)).2) := by
 have tz : decide (0 < nn) = false := decide_eq_false (by have := hm.len; omega)
 have HG := Lib.hid (show ∀ w', DL rPfx 2 w' (Lo w') Ag ng gone → Calls Tryz.prog 83 #[.slice Ag ng cg] w' (RetL w' (pfxB gone) true) from fun w' h => by
  have := refList05 Ag ng cg gone w' h hz.2.2.1
  rw [listP_yes hg1] at this
  exact this)
 have HM := Lib.hid (show ∀ w', DL rPfx 2 w' (Lo w') An nn news → Calls Tryz.prog 83 #[.slice An nn cn] w' (RetL w' (pfxB news) true) from fun w' h => by
  have := refList05 An nn cn news w' h hz.2.2.2
  rw [listP_yes hm1] at this
  exact this)
 obtain ⟨G, hG⟩ : ∃ x, pfxB gone = x := ⟨_, rfl⟩
 obtain ⟨M, hM⟩ : ∃ x, pfxB news = x := ⟨_, rfl⟩
 have HLG := Lib.hid (show G.length ≤ 50000 by have h1 := pfxB_len gone; have h2 := hg.len; rw [hG] at h1; omega)
 have HLM := Lib.hid (show M.length ≤ 50000 by have h1 := pfxB_len news; have h2 := hm.len; rw [hM] at h1; omega)
 have HV := Lib.hid (show updPut true (⟨gone, ⟨o, path, nx, md, pf, at_, ha, gs, ga, comms, raws⟩, news⟩ : Upd) = if 4077 < G.length + ([] : List UInt8).length + M.length + 4 then ([], 4) else (updB G ([] : List UInt8) M, 0) by
  have hk : updOk (⟨gone, ⟨o, path, nx, md, pf, at_, ha, gs, ga, comms, raws⟩, news⟩ : Upd) = true := by unfold updOk; simp only [hg1, hm1, Bool.true_and]; rw [decide_eq_true hn0]; rfl
  unfold updPut updLen
  rw [if_pos hk, show saidB true (⟨gone, ⟨o, path, nx, md, pf, at_, ha, gs, ga, comms, raws⟩, news⟩ : Upd) = ([] : List UInt8) from if_pos hn0, ← hG, ← hM])
 rw [hG] at HG
 rw [hM] at HM
 clear hs hw hg1 hm1 hn0 hG hM
 obtain ⟨W, hW, hX, b0⟩ := box1c w #[.slice Ag ng cg, .int .i64 o, .slice A n c, .int .u32 nx, .int .i64 md, .int .i64 pf, .bool at_, .bool ha, .int .u32 gs, .int .u32 ga, .slice A1 n1 c1, .slice A2 n2 c2, .slice An nn cn] 77
 go_enter Tryz.func37, Tryz.ntmps37
 go_upto_region 1 with fail
 try rw [hW]
 obtain ⟨q, hq⟩ : ∃ q, w.heap.size = q := ⟨_, rfl⟩
 try rw [hq]
 rw [hq] at hX
 have HQ := Lib.hid hq
 clear hW hq
 have c_hX0 := hX.cell 0
 have c_hX1 := hX.cell 1
 have c_hX2 := hX.cell 2
 have c_hX3 := hX.cell 3
 have c_hX4 := hX.cell 4
 have c_hX5 := hX.cell 5
 have c_hX6 := hX.cell 6
 have c_hX7 := hX.cell 7
 have c_hX8 := hX.cell 8
 have c_hX9 := hX.cell 9
 have c_hX10 := hX.cell 10
 have c_hX11 := hX.cell 11
 have c_hX12 := hX.cell 12
 go_wp2_with fail
 refine (HG.out _ (hg.pfxB5 b0)).mono ?_
 rintro _ w1 ⟨A3, n3, c3, rfl, o3, b1⟩
 clear c_hX0 c_hX1 c_hX2 c_hX3 c_hX4 c_hX5 c_hX6 c_hX7 c_hX8 c_hX9 c_hX10 c_hX11 c_hX12
 have b01 := btr b0 b1 b0.size
 have hX_1 := hX.below b1 hX.lt
 have c_hX0 := hX_1.cell 0
 have c_hX1 := hX_1.cell 1
 have c_hX2 := hX_1.cell 2
 have c_hX3 := hX_1.cell 3
 have c_hX4 := hX_1.cell 4
 have c_hX5 := hX_1.cell 5
 have c_hX6 := hX_1.cell 6
 have c_hX7 := hX_1.cell 7
 have c_hX8 := hX_1.cell 8
 have c_hX9 := hX_1.cell 9
 have c_hX10 := hX_1.cell 10
 have c_hX11 := hX_1.cell 11
 have c_hX12 := hX_1.cell 12
 have s3 := o3.bs
 go_wp2_with fail
 refine (HM.out _ (hm.pfxB5 b01)).mono ?_
 rintro _ w2 ⟨A4, n4, c4, rfl, o4, b2⟩
 clear c_hX0 c_hX1 c_hX2 c_hX3 c_hX4 c_hX5 c_hX6 c_hX7 c_hX8 c_hX9 c_hX10 c_hX11 c_hX12
 have b02 := btr b01 b2 b01.size
 have hX_2 := hX_1.below b2 hX_1.lt
 clear hX_1
 have s3_2 := s3.call b2
 have c_hX0 := hX_2.cell 0
 have c_hX1 := hX_2.cell 1
 have c_hX2 := hX_2.cell 2
 have c_hX3 := hX_2.cell 3
 have c_hX4 := hX_2.cell 4
 have c_hX5 := hX_2.cell 5
 have c_hX6 := hX_2.cell 6
 have c_hX7 := hX_2.cell 7
 have c_hX8 := hX_2.cell 8
 have c_hX9 := hX_2.cell 9
 have c_hX10 := hX_2.cell 10
 have c_hX11 := hX_2.cell 11
 have c_hX12 := hX_2.cell 12
 have s4 := o4.bs
 have S3 := s3_2
 have S4 := s4
 have bB := b02
 have e3 := Lib.hid S3.len
 have e4 := Lib.hid S4.len
 go_wp2_with fail
 refine (ref01Put16 none 0 0 [] n3 _ BS.none_ (by simp)).mono ?_
 rw [List.nil_append]
 rintro _ w6 ⟨A6, n6, c6, rfl, o6, b6⟩
 have m3 := S3.below b6
 go_wp2_with (at_builtin; refine wpl_app rfl (.tmp 49) (.tmp 50) _ rfl 5 Tryz.underlying38 u8info w2.heap.size A6 n6 c6 _ (by rfl) o6 w2.heap.size A3 n3 c3 G (by rfl) m3 (by have := e3.out; have := HLG.out; simp [b16]; omega) b6.size ?_; intro A7 n7 c7 w7 o7 b7 g7)
 have b67 := b6.trans b7
 refine (ref01Put16 A7 n7 c7 _ 0 _ o7.bs (by have := e3.out; have := HLG.out; simp [b16]; omega)).mono ?_
 rintro _ w8 ⟨A8, n8, c8, rfl, o8, b8⟩
 have b68 := btr b67 b8 b67.size
 have o8' := o8.low (base' := w2.heap.size) b67.size
 have pS : BS w8 w2.heap.size none 0 ([] : List UInt8) := BS.none_
 go_upto_region 16 with (first
  | (at_builtin; refine wpl_app rfl (.tmp 56) (.tmp 57) _ rfl 5 Tryz.underlying38 u8info w2.heap.size A8 n8 c8 _ (by rfl) o8' w2.heap.size none 0 0 ([] : List UInt8) (by rfl) pS (by have := e3.out; have := HLG.out; have := HLG.out; simp [b16]; omega) b68.size ?_; intro A9 n9 c9 w9 o9 b9 g9; have b69 := b68.trans b9; have r4 := S4.below b69)
  | (at_builtin; refine wpl_app rfl (.tmp 59) (.tmp 60) _ rfl 5 Tryz.underlying38 u8info w2.heap.size A9 n9 c9 _ (by rfl) o9 w2.heap.size A4 n4 c4 M (by rfl) r4 (by have := e3.out; have := HLG.out; have := HLG.out; have := e4.out; have := HLM.out; simp [b16]; omega) b69.size ?_; intro A10 n10 c10 w10 o10 b10 g10; have b6t := b69.trans b10))
 have HN := Lib.hid (show n10 = G.length + ([] : List UInt8).length + M.length + 4 by have := o10.1; simp [b16] at this; (try simp only [List.length_nil]); omega)
 have HB := Lib.hid (show b16 (n3 : Int) ++ G ++ b16 (0 : Int) ++ ([] : List UInt8) ++ M = updB G ([] : List UInt8) M by unfold updB; rw [e3.out, show ((([] : List UInt8).length : Nat) : Int) = ((0 : Nat) : Int) from rfl]; try rfl)
 have bE := btr bB b6t bB.size
 have oE := o10.low (base' := w.heap.size) bB.size
 obtain ⟨L, hL⟩ : ∃ L, b16 (n3 : Int) ++ G ++ b16 (0 : Int) ++ ([] : List UInt8) ++ M = L := ⟨_, rfl⟩
 rw [hL] at HB oE
 clear o10 o9 o8 o8' o7 o6 hL
 by_cases hlt : 4077 < n10
 ·have t1 : decide ((4077 : Int) < (n10 : Int)) = true := decide_eq_true (by omega)
  have t2 : decide (4077 < n10) = true := decide_eq_true (by omega)
  have HE := Lib.hid (show updPut true (⟨gone, ⟨o, path, nx, md, pf, at_, ha, gs, ga, comms, raws⟩, news⟩ : Upd) = ([], 4) by rw [HV.out, if_pos (by rw [← HN.out]; exact hlt)])
  clear hlt
  go_wp2_with fail
  go_ret2
  rw [HE.out]
  exact ⟨none, 0, 0, rfl, OB.nil_, bE⟩
 ·have t1 : decide ((4077 : Int) < (n10 : Int)) = false := decide_eq_false (by omega)
  have t2 : decide (4077 < n10) = false := decide_eq_false (by omega)
  have HE := Lib.hid (show updPut true (⟨gone, ⟨o, path, nx, md, pf, at_, ha, gs, ga, comms, raws⟩, news⟩ : Upd) = (updB G ([] : List UInt8) M, 0) by rw [HV.out, if_neg (by rw [← HN.out]; exact hlt)])
  clear hlt
  go_wp2_with fail
  go_ret2
  rw [HE.out, ← HB.out]
  exact ⟨A10, n10, c10, rfl, oE, bE⟩
set_option maxHeartbeats 4000000 in
set_option maxRecDepth 100000 in
theorem refPut05_1 (Ag : Option Addr) (ng cg : Nat) (gone : List Pfx) (o : Int) (A : Option Addr) (n c : Nat) (path : List Seg) (nx md pf : Int) (at_ ha : Bool) (gs ga : Int) (A1 : Option Addr) (n1 c1 : Nat) (comms : List Int) (A2 : Option Addr) (n2 c2 : Nat) (raws : List RawV) (An : Option Addr) (nn cn : Nat) (news : List Pfx) (w : World) (hg : DL rPfx 2 w (Lo w) Ag ng gone) (hp : DL rSeg 2 w (Lo w) A n path) (hc : NF w (Lo w) A1 n1 comms) (hd : DL rRaw 3 w (Lo w) A2 n2 raws) (hm : DL rPfx 2 w (Lo w) An nn news) (hs : Hid (sumN path ≤ big32)) (hw : Hid (0 ≤ nx ∧ nx < 4294967296 ∧ 0 ≤ gs ∧ gs < 4294967296 ∧ 0 ≤ ga ∧ ga < 4294967296)) (hz : n ≤ 12 ∧ n2 ≤ 100000 ∧ ng ≤ 10000 ∧ nn ≤ 10000) (hg1 : gone.all okQ = true) (hm1 : news.all okQ = true) (hn0 : ¬ news.length = 0) (hr1 : rightAt (⟨o, path, nx, md, pf, at_, ha, gs, ga, comms, raws⟩ : At) = true) :
  Calls Tryz.prog 37 #[.agg #[.slice Ag ng cg, .int .i64 o, .slice A n c, .int .u32 nx, .int .i64 md, .int .i64 pf, .bool at_, .bool ha, .int .u32 gs, .int .u32 ga, .slice A1 n1 c1, .slice A2 n2 c2, .slice An nn cn], .bool true] w (RetPut w (updPut true (⟨gone, ⟨o, path, nx, md, pf, at_, ha, gs, ga, comms, raws⟩, news⟩ : Upd)).1 (updPut true (⟨gone, ⟨o, path, nx, md, pf, at_, ha, gs, ga, comms, raws⟩, news⟩ : Upd)).2) := by
 have tz : decide (0 < nn) = true := decide_eq_true (by have := hm.len; omega)
 have HG := Lib.hid (show ∀ w', DL rPfx 2 w' (Lo w') Ag ng gone → Calls Tryz.prog 83 #[.slice Ag ng cg] w' (RetL w' (pfxB gone) true) from fun w' h => by
  have := refList05 Ag ng cg gone w' h hz.2.2.1
  rw [listP_yes hg1] at this
  exact this)
 have HM := Lib.hid (show ∀ w', DL rPfx 2 w' (Lo w') An nn news → Calls Tryz.prog 83 #[.slice An nn cn] w' (RetL w' (pfxB news) true) from fun w' h => by
  have := refList05 An nn cn news w' h hz.2.2.2
  rw [listP_yes hm1] at this
  exact this)
 have HP := Lib.hid (show ∀ w', DL rSeg 2 w' (Lo w') A n path → NF w' (Lo w') A1 n1 comms → DL rRaw 3 w' (Lo w') A2 n2 raws → Calls Tryz.prog 84 #[.agg #[.int .i64 o, .slice A n c, .int .u32 nx, .int .i64 md, .int .i64 pf, .bool at_, .bool ha, .int .u32 gs, .int .u32 ga, .slice A1 n1 c1, .slice A2 n2 c2], .bool true] w' (RetPE w' (attsB true (⟨o, path, nx, md, pf, at_, ha, gs, ga, comms, raws⟩ : At), 0)) from fun w' h1 h2 h3 => by
  have := refPut04U o A n c path nx md pf at_ ha gs ga A1 n1 c1 comms A2 n2 c2 raws w' h1 h2 h3 hz.1 hs hz.2.1 hw
  rw [show putAt true (⟨o, path, nx, md, pf, at_, ha, gs, ga, comms, raws⟩ : At) = (attsB true (⟨o, path, nx, md, pf, at_, ha, gs, ga, comms, raws⟩ : At), 0) from if_pos hr1] at this
  exact this)
 obtain ⟨G, hG⟩ : ∃ x, pfxB gone = x := ⟨_, rfl⟩
 obtain ⟨M, hM⟩ : ∃ x, pfxB news = x := ⟨_, rfl⟩
 have HLG := Lib.hid (show G.length ≤ 50000 by have h1 := pfxB_len gone; have h2 := hg.len; rw [hG] at h1; omega)
 have HLM := Lib.hid (show M.length ≤ 50000 by have h1 := pfxB_len news; have h2 := hm.len; rw [hM] at h1; omega)
 obtain ⟨S, hS⟩ : ∃ x, attsB true (⟨o, path, nx, md, pf, at_, ha, gs, ga, comms, raws⟩ : At) = x := ⟨_, rfl⟩
 have HLS := Lib.hid (show S.length ≤ 5000 by rw [← hS]; exact attsB_len true hr1)
 have HV := Lib.hid (show updPut true (⟨gone, ⟨o, path, nx, md, pf, at_, ha, gs, ga, comms, raws⟩, news⟩ : Upd) = if 4077 < G.length + S.length + M.length + 4 then ([], 4) else (updB G S M, 0) by
  have hk : updOk (⟨gone, ⟨o, path, nx, md, pf, at_, ha, gs, ga, comms, raws⟩, news⟩ : Upd) = true := by unfold updOk; simp only [hg1, hm1, Bool.true_and]; rw [hr1, Bool.or_true]
  unfold updPut updLen
  rw [if_pos hk, show saidB true (⟨gone, ⟨o, path, nx, md, pf, at_, ha, gs, ga, comms, raws⟩, news⟩ : Upd) = S from (if_neg hn0).trans hS, ← hG, ← hM])
 rw [hG] at HG
 rw [hM] at HM
 rw [hS] at HP
 clear hs hw hg1 hm1 hn0 hr1 hG hM hS
 obtain ⟨W, hW, hX, b0⟩ := box1c w #[.slice Ag ng cg, .int .i64 o, .slice A n c, .int .u32 nx, .int .i64 md, .int .i64 pf, .bool at_, .bool ha, .int .u32 gs, .int .u32 ga, .slice A1 n1 c1, .slice A2 n2 c2, .slice An nn cn] 77
 go_enter Tryz.func37, Tryz.ntmps37
 go_upto_region 1 with fail
 try rw [hW]
 obtain ⟨q, hq⟩ : ∃ q, w.heap.size = q := ⟨_, rfl⟩
 try rw [hq]
 rw [hq] at hX
 have HQ := Lib.hid hq
 clear hW hq
 have c_hX0 := hX.cell 0
 have c_hX1 := hX.cell 1
 have c_hX2 := hX.cell 2
 have c_hX3 := hX.cell 3
 have c_hX4 := hX.cell 4
 have c_hX5 := hX.cell 5
 have c_hX6 := hX.cell 6
 have c_hX7 := hX.cell 7
 have c_hX8 := hX.cell 8
 have c_hX9 := hX.cell 9
 have c_hX10 := hX.cell 10
 have c_hX11 := hX.cell 11
 have c_hX12 := hX.cell 12
 go_wp2_with fail
 refine (HG.out _ (hg.pfxB5 b0)).mono ?_
 rintro _ w1 ⟨A3, n3, c3, rfl, o3, b1⟩
 clear c_hX0 c_hX1 c_hX2 c_hX3 c_hX4 c_hX5 c_hX6 c_hX7 c_hX8 c_hX9 c_hX10 c_hX11 c_hX12
 have b01 := btr b0 b1 b0.size
 have hX_1 := hX.below b1 hX.lt
 have c_hX0 := hX_1.cell 0
 have c_hX1 := hX_1.cell 1
 have c_hX2 := hX_1.cell 2
 have c_hX3 := hX_1.cell 3
 have c_hX4 := hX_1.cell 4
 have c_hX5 := hX_1.cell 5
 have c_hX6 := hX_1.cell 6
 have c_hX7 := hX_1.cell 7
 have c_hX8 := hX_1.cell 8
 have c_hX9 := hX_1.cell 9
 have c_hX10 := hX_1.cell 10
 have c_hX11 := hX_1.cell 11
 have c_hX12 := hX_1.cell 12
 have s3 := o3.bs
 go_wp2_with fail
 refine (HM.out _ (hm.pfxB5 b01)).mono ?_
 rintro _ w2 ⟨A4, n4, c4, rfl, o4, b2⟩
 clear c_hX0 c_hX1 c_hX2 c_hX3 c_hX4 c_hX5 c_hX6 c_hX7 c_hX8 c_hX9 c_hX10 c_hX11 c_hX12
 have b02 := btr b01 b2 b01.size
 have hX_2 := hX_1.below b2 hX_1.lt
 clear hX_1
 have s3_2 := s3.call b2
 have c_hX0 := hX_2.cell 0
 have c_hX1 := hX_2.cell 1
 have c_hX2 := hX_2.cell 2
 have c_hX3 := hX_2.cell 3
 have c_hX4 := hX_2.cell 4
 have c_hX5 := hX_2.cell 5
 have c_hX6 := hX_2.cell 6
 have c_hX7 := hX_2.cell 7
 have c_hX8 := hX_2.cell 8
 have c_hX9 := hX_2.cell 9
 have c_hX10 := hX_2.cell 10
 have c_hX11 := hX_2.cell 11
 have c_hX12 := hX_2.cell 12
 have s4 := o4.bs
 go_wp2_with fail
 refine (HP.out _ (hp.segB5 b02) (hc.numB5 b02) (hd.rawB5 b02)).mono ?_
 rintro _ w3 ⟨A5, n5, c5, rfl, o5, b3⟩
 clear c_hX0 c_hX1 c_hX2 c_hX3 c_hX4 c_hX5 c_hX6 c_hX7 c_hX8 c_hX9 c_hX10 c_hX11 c_hX12
 have b03 := btr b02 b3 b02.size
 have hX_3 := hX_2.below b3 hX_2.lt
 clear hX_2
 have s3_3 := s3_2.call b3
 clear s3_2
 have s4_3 := s4.call b3
 have c_hX0 := hX_3.cell 0
 have c_hX1 := hX_3.cell 1
 have c_hX2 := hX_3.cell 2
 have c_hX3 := hX_3.cell 3
 have c_hX4 := hX_3.cell 4
 have c_hX5 := hX_3.cell 5
 have c_hX6 := hX_3.cell 6
 have c_hX7 := hX_3.cell 7
 have c_hX8 := hX_3.cell 8
 have c_hX9 := hX_3.cell 9
 have c_hX10 := hX_3.cell 10
 have c_hX11 := hX_3.cell 11
 have c_hX12 := hX_3.cell 12
 have s5 := o5.bs
 have S5 := s5
 have e5 := Lib.hid S5.len
 have S3 := s3_3
 have S4 := s4_3
 have bB := b03
 have e3 := Lib.hid S3.len
 have e4 := Lib.hid S4.len
 go_wp2_with fail
 refine (ref01Put16 none 0 0 [] n3 _ BS.none_ (by simp)).mono ?_
 rw [List.nil_append]
 rintro _ w6 ⟨A6, n6, c6, rfl, o6, b6⟩
 have m3 := S3.below b6
 go_wp2_with (at_builtin; refine wpl_app rfl (.tmp 49) (.tmp 50) _ rfl 5 Tryz.underlying38 u8info w3.heap.size A6 n6 c6 _ (by rfl) o6 w3.heap.size A3 n3 c3 G (by rfl) m3 (by have := e3.out; have := HLG.out; simp [b16]; omega) b6.size ?_; intro A7 n7 c7 w7 o7 b7 g7)
 have b67 := b6.trans b7
 refine (ref01Put16 A7 n7 c7 _ n5 _ o7.bs (by have := e3.out; have := HLG.out; simp [b16]; omega)).mono ?_
 rintro _ w8 ⟨A8, n8, c8, rfl, o8, b8⟩
 have b68 := btr b67 b8 b67.size
 have o8' := o8.low (base' := w3.heap.size) b67.size
 have pS : BS w8 w3.heap.size A5 n5 S := S5.below b68
 go_upto_region 16 with (first
  | (at_builtin; refine wpl_app rfl (.tmp 56) (.tmp 57) _ rfl 5 Tryz.underlying38 u8info w3.heap.size A8 n8 c8 _ (by rfl) o8' w3.heap.size A5 n5 c5 S (by rfl) pS (by have := e3.out; have := HLG.out; have := HLS.out; simp [b16]; omega) b68.size ?_; intro A9 n9 c9 w9 o9 b9 g9; have b69 := b68.trans b9; have r4 := S4.below b69)
  | (at_builtin; refine wpl_app rfl (.tmp 59) (.tmp 60) _ rfl 5 Tryz.underlying38 u8info w3.heap.size A9 n9 c9 _ (by rfl) o9 w3.heap.size A4 n4 c4 M (by rfl) r4 (by have := e3.out; have := HLG.out; have := HLS.out; have := e4.out; have := HLM.out; simp [b16]; omega) b69.size ?_; intro A10 n10 c10 w10 o10 b10 g10; have b6t := b69.trans b10))
 have HN := Lib.hid (show n10 = G.length + S.length + M.length + 4 by have := o10.1; simp [b16] at this; (try simp only [List.length_nil]); omega)
 have HB := Lib.hid (show b16 (n3 : Int) ++ G ++ b16 (n5 : Int) ++ S ++ M = updB G S M by unfold updB; rw [e3.out, e5.out]; try rfl)
 have bE := btr bB b6t bB.size
 have oE := o10.low (base' := w.heap.size) bB.size
 obtain ⟨L, hL⟩ : ∃ L, b16 (n3 : Int) ++ G ++ b16 (n5 : Int) ++ S ++ M = L := ⟨_, rfl⟩
 rw [hL] at HB oE
 clear o10 o9 o8 o8' o7 o6 hL
 by_cases hlt : 4077 < n10
 ·have t1 : decide ((4077 : Int) < (n10 : Int)) = true := decide_eq_true (by omega)
  have t2 : decide (4077 < n10) = true := decide_eq_true (by omega)
  have HE := Lib.hid (show updPut true (⟨gone, ⟨o, path, nx, md, pf, at_, ha, gs, ga, comms, raws⟩, news⟩ : Upd) = ([], 4) by rw [HV.out, if_pos (by rw [← HN.out]; exact hlt)])
  clear hlt
  go_wp2_with fail
  go_ret2
  rw [HE.out]
  exact ⟨none, 0, 0, rfl, OB.nil_, bE⟩
 ·have t1 : decide ((4077 : Int) < (n10 : Int)) = false := decide_eq_false (by omega)
  have t2 : decide (4077 < n10) = false := decide_eq_false (by omega)
  have HE := Lib.hid (show updPut true (⟨gone, ⟨o, path, nx, md, pf, at_, ha, gs, ga, comms, raws⟩, news⟩ : Upd) = (updB G S M, 0) by rw [HV.out, if_neg (by rw [← HN.out]; exact hlt)])
  clear hlt
  go_wp2_with fail
  go_ret2
  rw [HE.out, ← HB.out]
  exact ⟨A10, n10, c10, rfl, oE, bE⟩
theorem refPut05 (Ag : Option Addr) (ng cg : Nat) (gone : List Pfx) (o : Int) (A : Option Addr) (n c : Nat) (path : List Seg) (nx md pf : Int) (at_ ha : Bool) (gs ga : Int) (A1 : Option Addr) (n1 c1 : Nat) (comms : List Int) (A2 : Option Addr) (n2 c2 : Nat) (raws : List RawV) (An : Option Addr) (nn cn : Nat) (news : List Pfx) (w : World) (hg : DL rPfx 2 w (Lo w) Ag ng gone) (hp : DL rSeg 2 w (Lo w) A n path) (hc : NF w (Lo w) A1 n1 comms) (hd : DL rRaw 3 w (Lo w) A2 n2 raws) (hm : DL rPfx 2 w (Lo w) An nn news) (hs : Hid (sumN path ≤ big32)) (hw : Hid (0 ≤ nx ∧ nx < 4294967296 ∧ 0 ≤ gs ∧ gs < 4294967296 ∧ 0 ≤ ga ∧ ga < 4294967296)) (hz : n ≤ 12 ∧ n2 ≤ 100000 ∧ ng ≤ 10000 ∧ nn ≤ 10000) :
  Calls Tryz.prog 37 #[.agg #[.slice Ag ng cg, .int .i64 o, .slice A n c, .int .u32 nx, .int .i64 md, .int .i64 pf, .bool at_, .bool ha, .int .u32 gs, .int .u32 ga, .slice A1 n1 c1, .slice A2 n2 c2, .slice An nn cn], .bool true] w (RetPut w (updPut true (⟨gone, ⟨o, path, nx, md, pf, at_, ha, gs, ga, comms, raws⟩, news⟩ : Upd)).1 (updPut true (⟨gone, ⟨o, path, nx, md, pf, at_, ha, gs, ga, comms, raws⟩, news⟩ : Upd)).2) := by
 have no : updOk (⟨gone, ⟨o, path, nx, md, pf, at_, ha, gs, ga, comms, raws⟩, news⟩ : Upd) = false → Calls Tryz.prog 37 #[.agg #[.slice Ag ng cg, .int .i64 o, .slice A n c, .int .u32 nx, .int .i64 md, .int .i64 pf, .bool at_, .bool ha, .int .u32 gs, .int .u32 ga, .slice A1 n1 c1, .slice A2 n2 c2, .slice An nn cn], .bool true] w (RetPut w [] 1) → Calls Tryz.prog 37 #[.agg #[.slice Ag ng cg, .int .i64 o, .slice A n c, .int .u32 nx, .int .i64 md, .int .i64 pf, .bool at_, .bool ha, .int .u32 gs, .int .u32 ga, .slice A1 n1 c1, .slice A2 n2 c2, .slice An nn cn], .bool true] w (RetPut w (updPut true (⟨gone, ⟨o, path, nx, md, pf, at_, ha, gs, ga, comms, raws⟩, news⟩ : Upd)).1 (updPut true (⟨gone, ⟨o, path, nx, md, pf, at_, ha, gs, ga, comms, raws⟩, news⟩ : Upd)).2) := by
  intro h1 h2
  rw [show updPut true (⟨gone, ⟨o, path, nx, md, pf, at_, ha, gs, ga, comms, raws⟩, news⟩ : Upd) = ([], 1) from if_neg (by rw [h1]; decide)]
  exact h2
 cases hg1 : gone.all okQ
 ·exact no (by unfold updOk; rw [hg1]; rfl) (refPut05_g Ag ng cg gone o A n c path nx md pf at_ ha gs ga A1 n1 c1 comms A2 n2 c2 raws An nn cn news w hg hp hc hd hm hs hw hz hg1)
 cases hm1 : news.all okQ
 ·exact no (by unfold updOk; rw [hg1, hm1]; rfl) (refPut05_m Ag ng cg gone o A n c path nx md pf at_ ha gs ga A1 n1 c1 comms A2 n2 c2 raws An nn cn news w hg hp hc hd hm hs hw hz hg1 hm1)
 by_cases hn0 : news.length = 0
 ·exact refPut05_0 Ag ng cg gone o A n c path nx md pf at_ ha gs ga A1 n1 c1 comms A2 n2 c2 raws An nn cn news w hg hp hc hd hm hs hw hz hg1 hm1 hn0
 cases hr1 : rightAt (⟨o, path, nx, md, pf, at_, ha, gs, ga, comms, raws⟩ : At)
 ·exact no (by unfold updOk; rw [hg1, hm1, decide_eq_false hn0]; exact hr1) (refPut05_r Ag ng cg gone o A n c path nx md pf at_ ha gs ga A1 n1 c1 comms A2 n2 c2 raws An nn cn news w hg hp hc hd hm hs hw hz hg1 hm1 hn0 hr1)
 ·exact refPut05_1 Ag ng cg gone o A n c path nx md pf at_ ha gs ga A1 n1 c1 comms A2 n2 c2 raws An nn cn news w hg hp hc hd hm hs hw hz hg1 hm1 hn0 hr1
theorem updPut5 (Ag : Option Addr) (ng cg : Nat) (gone : List Pfx) (o : Int) (A : Option Addr) (n c : Nat) (path : List Seg) (nx md pf : Int) (at_ ha : Bool) (gs ga : Int) (A1 : Option Addr) (n1 c1 : Nat) (comms : List Int) (A2 : Option Addr) (n2 c2 : Nat) (raws : List RawV) (An : Option Addr) (nn cn : Nat) (news : List Pfx) (w : World) (hg : DL rPfx 2 w (Lo w) Ag ng gone) (hp : DL rSeg 2 w (Lo w) A n path) (hc : NF w (Lo w) A1 n1 comms) (hd : DL rRaw 3 w (Lo w) A2 n2 raws) (hm : DL rPfx 2 w (Lo w) An nn news) (hs : Hid (sumN path ≤ big32)) (hw : Hid (0 ≤ nx ∧ nx < 4294967296 ∧ 0 ≤ gs ∧ gs < 4294967296 ∧ 0 ≤ ga ∧ ga < 4294967296)) (hz : n ≤ 12 ∧ n2 ≤ 100000 ∧ ng ≤ 10000 ∧ nn ≤ 10000) (ht : LookTab w) :
  Calls Tryz.prog 36 #[.agg #[.slice Ag ng cg, .int .i64 o, .slice A n c, .int .u32 nx, .int .i64 md, .int .i64 pf, .bool at_, .bool ha, .int .u32 gs, .int .u32 ga, .slice A1 n1 c1, .slice A2 n2 c2, .slice An nn cn], .bool true] w (RetPut w (updPut true (⟨gone, ⟨o, path, nx, md, pf, at_, ha, gs, ga, comms, raws⟩, news⟩ : Upd)).1 (updPut true (⟨gone, ⟨o, path, nx, md, pf, at_, ha, gs, ga, comms, raws⟩, news⟩ : Upd)).2) := by
 cases hk : updOk (⟨gone, ⟨o, path, nx, md, pf, at_, ha, gs, ga, comms, raws⟩, news⟩ : Upd)
 ·rw [show updPut true (⟨gone, ⟨o, path, nx, md, pf, at_, ha, gs, ga, comms, raws⟩, news⟩ : Upd) = ([], 1) from if_neg (by rw [hk]; decide)]
  exact updPut_no Ag ng cg gone o A n c path nx md pf at_ ha gs ga A1 n1 c1 comms A2 n2 c2 raws An nn cn news w hg hp hc hd hm hs hw hz ht hk
 ·refine updPut_yes Ag ng cg gone o A n c path nx md pf at_ ha gs ga A1 n1 c1 comms A2 n2 c2 raws An nn cn news w hg hp hc hd hm hs hw hz ht hk ?_
  unfold saidB
  by_cases hn0 : news.length = 0
  ·rw [if_pos hn0]; simp
  ·rw [if_neg hn0]
   unfold updOk at hk
   simp only [Bool.and_eq_true, Bool.or_eq_true, decide_eq_true_eq] at hk
   exact attsB_len true (hk.2.resolve_left hn0)
theorem fill_ret {fn : Func} {t p u : Tmp} (h : fn.results = #[.tmp t, .cell p 77, .tmp u]) (tmps : Array Value) (w : World) (g : Nat) (x0 x1 x2 x3 x4 x5 x6 x7 x8 x9 x10 x11 x12 y z : Value)
  (ht : tmps.getD t undef = y) (hp : tmps.getD p undef = .pointer (some ⟨g, 0, none⟩)) (hu : tmps.getD u undef = z) (hB : Blk w g 77 #[x0, x1, x2, x3, x4, x5, x6, x7, x8, x9, x10, x11, x12]) :
  (results fn tmps).run Tryz.prog w = .ok (.tuple #[y, .agg #[x0, x1, x2, x3, x4, x5, x6, x7, x8, x9, x10, x11, x12], z]) w := by
 have ht' : tmps[t]?.getD undef = y := by simpa using ht
 have hp' : tmps[p]?.getD undef = .pointer (some ⟨g, 0, none⟩) := by simpa using hp
 have hu' : tmps[u]?.getD undef = z := by simpa using hu
 have h1 := run_loadVar_row (P := Tryz.prog) w g 77 77 #[x0, x1, x2, x3, x4, x5, x6, x7, x8, x9, x10, x11, x12] (0, 0) _ hB Tryz.underlying77 rfl upd_info1
 simp [results, h, ht', hp', hu', asAddr, h1]
def flC (z : Bool) (Ag : Option Addr) (ng cg : Nat) (o : Int) (A : Option Addr) (n c : Nat) (nx md pf : Int) (at_ ha : Bool) (gs ga : Int) (A1 : Option Addr) (n1 c1 : Nat) (A2 : Option Addr) (n2 c2 : Nat) (An : Option Addr) (nn cn : Nat) : Array Value :=
 if z = true then #[.slice Ag ng cg, .int .i64 0, .slice none 0 0, .int .u32 0, .int .i64 0, .int .i64 0, .bool false, .bool false, .int .u32 0, .int .u32 0, .slice none 0 0, .slice none 0 0, .slice An nn cn] else #[.slice Ag ng cg, .int .i64 o, .slice A n c, .int .u32 nx, .int .i64 md, .int .i64 pf, .bool at_, .bool ha, .int .u32 gs, .int .u32 ga, .slice A1 n1 c1, .slice A2 n2 c2, .slice An nn cn]
/-- Two fresh copies of a struct, told of a region's end. -/
abbrev Pair5 (w1 w5 : World) (V Z : Array Value) (q3 q7 qa qb : Nat) : Prop := Below w1.heap.size w1 w5 ∧ Blk w5 q3 77 V ∧ Blk w5 q7 77 Z ∧ Blk w5 qa 77 V ∧ Blk w5 qb 77 V ∧ w1.heap.size ≤ qa ∧ w1.heap.size ≤ qb ∧ qa ≠ qb
/-- A body, and what is left. -/
def RetFO (w : World) (S : Nat → Prop) (bs : List UInt8) (z : Bool) (gone news : List Pfx) (o : Int) (A : Option Addr) (n c : Nat) (nx md pf : Int) (at_ ha : Bool) (gs ga : Int) (A1 : Option Addr) (n1 c1 : Nat) (A2 : Option Addr) (n2 c2 : Nat) (e : Ending) (w' : World) : Prop :=
 ∃ (Ab : Option Addr) (nb cb : Nat) (Ag : Option Addr) (ng cg : Nat) (An : Option Addr) (nn cn : Nat), e = .returned (.tuple #[.slice Ab nb cb, .agg (flC z Ag ng cg o A n c nx md pf at_ ha gs ga A1 n1 c1 A2 n2 c2 An nn cn), .int .i64 0]) ∧ BS w' w'.heap.size Ab nb bs ∧ DL rPfx 2 w' S Ag ng gone ∧ DL rPfx 2 w' S An nn news ∧ (ng ≤ cg ∧ nn ≤ cn) ∧ Below w.heap.size w w'
theorem okQ_take {l : List Pfx} (h : l.all okQ = true) (k : Nat) : (l.take k).all okQ = true := List.all_eq_true.2 fun x hx => List.all_eq_true.1 h x (List.mem_of_mem_take hx)
theorem put_gone {l : List Pfx} (ha : l.all okQ = true) (hl : (pfxB l).length ≤ 4000) : updPut true (⟨l, ⟨0, [], 0, 0, 0, false, false, 0, 0, [], []⟩, []⟩ : Upd) = (updB (pfxB l) [] [], 0) := by
 have hk : updOk (⟨l, ⟨0, [], 0, 0, 0, false, false, 0, 0, [], []⟩, []⟩ : Upd) = true := by unfold updOk; simp only [ha]; rfl
 unfold updPut
 rw [if_pos hk, if_neg (by unfold updLen saidB; simp [pfxB] at hl ⊢; omega)]
 unfold saidB
 rfl
theorem put_news {a : At} {l : List Pfx} (hr : rightAt a = true) (ha : l.all okQ = true) (h0 : l.length ≠ 0) (hl : (attsB true a).length + (pfxB l).length ≤ 4000) : updPut true (⟨[], a, l⟩ : Upd) = (updB [] (attsB true a) (pfxB l), 0) := by
 have hk : updOk (⟨[], a, l⟩ : Upd) = true := by unfold updOk; simp only [ha, hr]; simp
 have hs : saidB true (⟨[], a, l⟩ : Upd) = attsB true a := if_neg h0
 unfold updPut
 rw [if_pos hk, if_neg (by unfold updLen; rw [hs]; simp [pfxB] at hl ⊢; omega), hs]
 rfl
def RetFE (w : World) (x : Int) (e : Ending) (w' : World) : Prop := e = .returned (.tuple #[.slice none 0 0, .agg #[.slice none 0 0, .int .i64 0, .slice none 0 0, .int .u32 0, .int .i64 0, .int .i64 0, .bool false, .bool false, .int .u32 0, .int .u32 0, .slice none 0 0, .slice none 0 0, .slice none 0 0], .int .i64 x]) ∧ Below w.heap.size w w'
set_option maxHeartbeats 8000000 in
set_option maxRecDepth 100000 in
theorem updFill_err (Ag : Option Addr) (ng cg : Nat) (gone : List Pfx) (o : Int) (A : Option Addr) (n c : Nat) (path : List Seg) (nx md pf : Int) (at_ ha : Bool) (gs ga : Int) (A1 : Option Addr) (n1 c1 : Nat) (comms : List Int) (A2 : Option Addr) (n2 c2 : Nat) (raws : List RawV) (An : Option Addr) (nn cn : Nat) (news : List Pfx) (room : Int) (w : World) (S : Nat → Prop) (hS : ∀ b, S b → b < w.heap.size) (hgS : DL rPfx 2 w S Ag ng gone) (hp : DL rSeg 2 w (Lo w) A n path) (hc : NF w (Lo w) A1 n1 comms) (hd : DL rRaw 3 w (Lo w) A2 n2 raws) (hmS : DL rPfx 2 w S An nn news) (hs : Hid (sumN path ≤ big32)) (hw : Hid (0 ≤ nx ∧ nx < 4294967296 ∧ 0 ≤ gs ∧ gs < 4294967296 ∧ 0 ≤ ga ∧ ga < 4294967296)) (hz : n ≤ 12 ∧ n2 ≤ 100000 ∧ ng ≤ 10000 ∧ nn ≤ 10000) (ht : LookTab w) (hcap : ng ≤ cg ∧ nn ≤ cn) (hroom : 900 ≤ room ∧ room ≤ 4000) (hk : updOk (⟨gone, ⟨o, path, nx, md, pf, at_, ha, gs, ga, comms, raws⟩, news⟩ : Upd) = false) :
  Calls Tryz.prog 43 #[.agg #[.slice Ag ng cg, .int .i64 o, .slice A n c, .int .u32 nx, .int .i64 md, .int .i64 pf, .bool at_, .bool ha, .int .u32 gs, .int .u32 ga, .slice A1 n1 c1, .slice A2 n2 c2, .slice An nn cn], .bool true, .int .i64 room] w (RetFE w 1) := by
 have hg : DL rPfx 2 w (Lo w) Ag ng gone := hgS.keep rPfx_ok (Kp.sub hS)
 have hm : DL rPfx 2 w (Lo w) An nn news := hmS.keep rPfx_ok (Kp.sub hS)
 have HPA := Lib.hid (show ∀ w', DL rPfx 2 w' (Lo w') Ag ng gone → DL rSeg 2 w' (Lo w') A n path → NF w' (Lo w') A1 n1 comms → DL rRaw 3 w' (Lo w') A2 n2 raws → DL rPfx 2 w' (Lo w') An nn news → LookTab w' → Calls Tryz.prog 81 #[.agg #[.slice Ag ng cg, .int .i64 o, .slice A n c, .int .u32 nx, .int .i64 md, .int .i64 pf, .bool at_, .bool ha, .int .u32 gs, .int .u32 ga, .slice A1 n1 c1, .slice A2 n2 c2, .slice An nn cn], .bool true] w' (RetParts w' [] [] [] 1) from fun w' h1 h2 h3 h4 h5 h6 => updParts_no Ag ng cg gone o A n c path nx md pf at_ ha gs ga A1 n1 c1 comms A2 n2 c2 raws An nn cn news w' h1 h2 h3 h4 h5 hs hw hz h6 hk)
 clear hs hw
 obtain ⟨W, hW, hX, H7, b0⟩ := boxes2 w #[.slice Ag ng cg, .int .i64 o, .slice A n c, .int .u32 nx, .int .i64 md, .int .i64 pf, .bool at_, .bool ha, .int .u32 gs, .int .u32 ga, .slice A1 n1 c1, .slice A2 n2 c2, .slice An nn cn] #[.slice none 0 0, .int .i64 0, .slice none 0 0, .int .u32 0, .int .i64 0, .int .i64 0, .bool false, .bool false, .int .u32 0, .int .u32 0, .slice none 0 0, .slice none 0 0, .slice none 0 0] 77 77
 go_enter Tryz.func43, Tryz.ntmps43
 go_upto_region 1 with fail
 try rw [hW]
 obtain ⟨q3, hq3⟩ : ∃ q, w.heap.size = q := ⟨_, rfl⟩
 obtain ⟨q7, hq7⟩ : ∃ x, q3 + 1 = x := ⟨_, rfl⟩
 have hle3 : w.heap.size ≤ q3 := by omega
 have hlt37 : q3 < q7 := by omega
 try rw [hq3]
 try rw [hq7]
 rw [hq3] at hX H7
 rw [hq7] at H7
 clear hW hq3 hq7
 have c_hX0 := hX.cell 0
 have c_hX1 := hX.cell 1
 have c_hX2 := hX.cell 2
 have c_hX3 := hX.cell 3
 have c_hX4 := hX.cell 4
 have c_hX5 := hX.cell 5
 have c_hX6 := hX.cell 6
 have c_hX7 := hX.cell 7
 have c_hX8 := hX.cell 8
 have c_hX9 := hX.cell 9
 have c_hX10 := hX.cell 10
 have c_hX11 := hX.cell 11
 have c_hX12 := hX.cell 12
 go_wp2_with fail
 refine (HPA.out _ (hg.pfxB5 b0) (hp.segB5 b0) (hc.numB5 b0) (hd.rawB5 b0) (hm.pfxB5 b0) (ht.call b0)).mono ?_
 rintro _ w1 ⟨A3, n3, c3, A4, n4, c4, A5, n5, c5, rfl, s3, s4, s5, b1⟩
 clear c_hX0 c_hX1 c_hX2 c_hX3 c_hX4 c_hX5 c_hX6 c_hX7 c_hX8 c_hX9 c_hX10 c_hX11 c_hX12
 have b01 := btr b0 b1 b0.size
 have hX_1 := hX.below b1 hX.lt
 have H7_1 := H7.below b1 H7.lt
 have c_hX0 := hX_1.cell 0
 have c_hX1 := hX_1.cell 1
 have c_hX2 := hX_1.cell 2
 have c_hX3 := hX_1.cell 3
 have c_hX4 := hX_1.cell 4
 have c_hX5 := hX_1.cell 5
 have c_hX6 := hX_1.cell 6
 have c_hX7 := hX_1.cell 7
 have c_hX8 := hX_1.cell 8
 have c_hX9 := hX_1.cell 9
 have c_hX10 := hX_1.cell 10
 have c_hX11 := hX_1.cell 11
 have c_hX12 := hX_1.cell 12
 have R7 := H7_1
 have R7c0 := R7.cell 0
 have kc0 := R7.cell 0
 have kf0 := R7.frozen 0
 have kc1 := R7.cell 1
 have kf1 := R7.frozen 1
 have kc2 := R7.cell 2
 have kf2 := R7.frozen 2
 have kc3 := R7.cell 3
 have kf3 := R7.frozen 3
 have kc4 := R7.cell 4
 have kf4 := R7.frozen 4
 have kc5 := R7.cell 5
 have kf5 := R7.frozen 5
 have kc6 := R7.cell 6
 have kf6 := R7.frozen 6
 have kc7 := R7.cell 7
 have kf7 := R7.frozen 7
 have kc8 := R7.cell 8
 have kf8 := R7.frozen 8
 have kc9 := R7.cell 9
 have kf9 := R7.frozen 9
 have kc10 := R7.cell 10
 have kf10 := R7.frozen 10
 have kc11 := R7.cell 11
 have kf11 := R7.frozen 11
 have kc12 := R7.cell 12
 have kf12 := R7.frozen 12
 have gu := upd_grown (q := q7) (x0 := .slice none 0 0) (x1 := .int .i64 0) (x2 := .slice none 0 0) (x3 := .int .u32 0) (x4 := .int .i64 0) (x5 := .int .i64 0) (x6 := .bool false) (x7 := .bool false) (x8 := .int .u32 0) (x9 := .int .u32 0) (x10 := .slice none 0 0) (x11 := .slice none 0 0) (x12 := .slice none 0 0) w1
 have bE := b01.grown gu b01.size (fun k hk => by injection hk with hk; omega)
 clear c_hX0 c_hX1 c_hX2 c_hX3 c_hX4 c_hX5 c_hX6 c_hX7 c_hX8 c_hX9 c_hX10 c_hX11 c_hX12
 go_upto_region 3 with fail
 rename_i hk3
 have HKK := Lib.hid hk3
 clear hk3
 go_wp2_with fail
 refine HKK.out _ _ (wp_ret ?_)
 exact bodyPost_ret (fill_ret rfl _ _ q7 _ _ _ _ _ _ _ _ _ _ _ _ _ _ _ rfl rfl rfl (upd_store R7)) rfl ⟨rfl, bE⟩
set_option maxHeartbeats 8000000 in
set_option maxRecDepth 100000 in
theorem updFill_g (Ag : Option Addr) (ng cg : Nat) (gone : List Pfx) (o : Int) (A : Option Addr) (n c : Nat) (path : List Seg) (nx md pf : Int) (at_ ha : Bool) (gs ga : Int) (A1 : Option Addr) (n1 c1 : Nat) (comms : List Int) (A2 : Option Addr) (n2 c2 : Nat) (raws : List RawV) (An : Option Addr) (nn cn : Nat) (news : List Pfx) (room : Int) (w : World) (S : Nat → Prop) (hS : ∀ b, S b → b < w.heap.size) (hgS : DL rPfx 2 w S Ag ng gone) (hp : DL rSeg 2 w (Lo w) A n path) (hc : NF w (Lo w) A1 n1 comms) (hd : DL rRaw 3 w (Lo w) A2 n2 raws) (hmS : DL rPfx 2 w S An nn news) (hs : Hid (sumN path ≤ big32)) (hw : Hid (0 ≤ nx ∧ nx < 4294967296 ∧ 0 ≤ gs ∧ gs < 4294967296 ∧ 0 ≤ ga ∧ ga < 4294967296)) (hz : n ≤ 12 ∧ n2 ≤ 100000 ∧ ng ≤ 10000 ∧ nn ≤ 10000) (ht : LookTab w) (hcap : ng ≤ cg ∧ nn ≤ cn) (hroom : 900 ≤ room ∧ room ≤ 4000) (hk : updOk (⟨gone, ⟨o, path, nx, md, pf, at_, ha, gs, ga, comms, raws⟩, news⟩ : Upd) = true) (hg0 : gone.length ≠ 0) (k : Nat) (hkk : fitsN gone (room - 4) = k) :
  Calls Tryz.prog 43 #[.agg #[.slice Ag ng cg, .int .i64 o, .slice A n c, .int .u32 nx, .int .i64 md, .int .i64 pf, .bool at_, .bool ha, .int .u32 gs, .int .u32 ga, .slice A1 n1 c1, .slice A2 n2 c2, .slice An nn cn], .bool true, .int .i64 room] w (RetFO w S (updB (pfxB (gone.take k)) [] []) (decide (news.length = 0)) (gone.drop k) news o A n c nx md pf at_ ha gs ga A1 n1 c1 A2 n2 c2) := by
 have hg : DL rPfx 2 w (Lo w) Ag ng gone := hgS.keep rPfx_ok (Kp.sub hS)
 have hm : DL rPfx 2 w (Lo w) An nn news := hmS.keep rPfx_ok (Kp.sub hS)
 have HPA := Lib.hid (show ∀ w', DL rPfx 2 w' (Lo w') Ag ng gone → DL rSeg 2 w' (Lo w') A n path → NF w' (Lo w') A1 n1 comms → DL rRaw 3 w' (Lo w') A2 n2 raws → DL rPfx 2 w' (Lo w') An nn news → LookTab w' → Calls Tryz.prog 81 #[.agg #[.slice Ag ng cg, .int .i64 o, .slice A n c, .int .u32 nx, .int .i64 md, .int .i64 pf, .bool at_, .bool ha, .int .u32 gs, .int .u32 ga, .slice A1 n1 c1, .slice A2 n2 c2, .slice An nn cn], .bool true] w' (RetParts w' (pfxB gone) (saidB true (⟨gone, ⟨o, path, nx, md, pf, at_, ha, gs, ga, comms, raws⟩, news⟩ : Upd)) (pfxB news) 0) from fun w' h1 h2 h3 h4 h5 h6 => updParts_yes Ag ng cg gone o A n c path nx md pf at_ ha gs ga A1 n1 c1 comms A2 n2 c2 raws An nn cn news w' h1 h2 h3 h4 h5 hs hw hz h6 hk)
 clear hs hw
 obtain ⟨W, hW, hX, H7, b0⟩ := boxes2 w #[.slice Ag ng cg, .int .i64 o, .slice A n c, .int .u32 nx, .int .i64 md, .int .i64 pf, .bool at_, .bool ha, .int .u32 gs, .int .u32 ga, .slice A1 n1 c1, .slice A2 n2 c2, .slice An nn cn] #[.slice none 0 0, .int .i64 0, .slice none 0 0, .int .u32 0, .int .i64 0, .int .i64 0, .bool false, .bool false, .int .u32 0, .int .u32 0, .slice none 0 0, .slice none 0 0, .slice none 0 0] 77 77
 go_enter Tryz.func43, Tryz.ntmps43
 go_upto_region 1 with fail
 try rw [hW]
 obtain ⟨q3, hq3⟩ : ∃ q, w.heap.size = q := ⟨_, rfl⟩
 obtain ⟨q7, hq7⟩ : ∃ x, q3 + 1 = x := ⟨_, rfl⟩
 have hle3 : w.heap.size ≤ q3 := by omega
 have hlt37 : q3 < q7 := by omega
 try rw [hq3]
 try rw [hq7]
 rw [hq3] at hX H7
 rw [hq7] at H7
 clear hW hq3 hq7
 have c_hX0 := hX.cell 0
 have c_hX1 := hX.cell 1
 have c_hX2 := hX.cell 2
 have c_hX3 := hX.cell 3
 have c_hX4 := hX.cell 4
 have c_hX5 := hX.cell 5
 have c_hX6 := hX.cell 6
 have c_hX7 := hX.cell 7
 have c_hX8 := hX.cell 8
 have c_hX9 := hX.cell 9
 have c_hX10 := hX.cell 10
 have c_hX11 := hX.cell 11
 have c_hX12 := hX.cell 12
 go_wp2_with fail
 refine (HPA.out _ (hg.pfxB5 b0) (hp.segB5 b0) (hc.numB5 b0) (hd.rawB5 b0) (hm.pfxB5 b0) (ht.call b0)).mono ?_
 rintro _ w1 ⟨A3, n3, c3, A4, n4, c4, A5, n5, c5, rfl, s3, s4, s5, b1⟩
 clear c_hX0 c_hX1 c_hX2 c_hX3 c_hX4 c_hX5 c_hX6 c_hX7 c_hX8 c_hX9 c_hX10 c_hX11 c_hX12
 have b01 := btr b0 b1 b0.size
 have hX_1 := hX.below b1 hX.lt
 have H7_1 := H7.below b1 H7.lt
 have c_hX0 := hX_1.cell 0
 have c_hX1 := hX_1.cell 1
 have c_hX2 := hX_1.cell 2
 have c_hX3 := hX_1.cell 3
 have c_hX4 := hX_1.cell 4
 have c_hX5 := hX_1.cell 5
 have c_hX6 := hX_1.cell 6
 have c_hX7 := hX_1.cell 7
 have c_hX8 := hX_1.cell 8
 have c_hX9 := hX_1.cell 9
 have c_hX10 := hX_1.cell 10
 have c_hX11 := hX_1.cell 11
 have c_hX12 := hX_1.cell 12
 have hr0 := hroom.1
 have hr1 := hroom.2
 have hmn : decide (room < 4077) = true := decide_eq_true (by omega)
 have hmx : decide (4077 < room) = false := decide_eq_false (by omega)
 have hm4 : room ≤ 4077 := by omega
 have hm0 : 0 ≤ room := by omega
 have X3 := hX_1
 have X7 := H7_1
 have bB := b01
 clear c_hX0 c_hX1 c_hX2 c_hX3 c_hX4 c_hX5 c_hX6 c_hX7 c_hX8 c_hX9 c_hX10 c_hX11 c_hX12
 go_upto_region 5 with fail
 rename_i hk5
 have HK5 := Lib.hid hk5
 clear hk5
 apply share
 case f =>
  intro HG0
  have HG := Lib.hid HG0
  clear HG0
  have bd0 : Below (w1).heap.size (w1) (w1).drew := (Below.refl _ _).drew
  obtain ⟨wd, hwd⟩ : ∃ x, (w1).drew = x := ⟨_, rfl⟩
  have hzd : wd.heap.size = (w1).heap.size := by rw [← hwd]; rfl
  rw [hwd] at bd0
  have X3d := X3.below bd0 X3.lt
  have X7d := X7.below bd0 X7.lt
  obtain ⟨W2, hW2, Y13, Y14, b2x⟩ := boxes2 wd #[.slice none 0 0, .int .i64 0, .slice none 0 0, .int .u32 0, .int .i64 0, .int .i64 0, .bool false, .bool false, .int .u32 0, .int .u32 0, .slice none 0 0, .slice none 0 0, .slice none 0 0] #[.slice none 0 0, .int .i64 0, .slice none 0 0, .int .u32 0, .int .i64 0, .int .i64 0, .bool false, .bool false, .int .u32 0, .int .u32 0, .slice none 0 0, .slice none 0 0, .slice none 0 0] 77 77
  obtain ⟨q13, hq13⟩ : ∃ x, (w1).heap.size = x := ⟨_, rfl⟩
  obtain ⟨q14, hq14⟩ : ∃ x, q13 + 1 = x := ⟨_, rfl⟩
  have X3e := X3d.below b2x X3d.lt
  have X7e := X7d.below b2x X7d.lt
  have hl7 := X7d.lt
  have b0x := btr bd0 b2x bd0.size
  rw [hzd, hq13] at Y13 Y14 hl7
  rw [hq14] at Y14
  have hl14 : q13 < q14 := by omega
  have hq13le : (w1).heap.size ≤ q13 := by omega
  have HW2 := Lib.hid hW2
  have HQ13 := Lib.hid hq13
  have HQ14 := Lib.hid hq14
  have HWD := Lib.hid hwd
  clear hW2 hq13 hq14 hwd
  refine wp_region_held_drew (S := (fun w' => Blk w' q3 77 #[.slice Ag ng cg, .int .i64 o, .slice A n c, .int .u32 nx, .int .i64 md, .int .i64 pf, .bool at_, .bool ha, .int .u32 gs, .int .u32 ga, .slice A1 n1 c1, .slice A2 n2 c2, .slice An nn cn])) (by kernel_rfl) ?_ (fun hHeld => ?_)
  ·rw [HWD.out]; exact X3d
  rw [HWD.out]
  rw [HWD.out] at hHeld
  refine wpAnyH_take (i := 0) (v := ?m1_v0) rfl (by kernel_rfl) (by kernel_rfl) (by kernel_rfl) (by intro _ _ _ h; exact h) (Or.inl ⟨by rfl, ?m1_hy0⟩) (by assumption) ?m1_rest0
  case m1_hy0 => (intro w hSw; (try dsimp only at hSw); have z0 := Blk.cell hSw 0; have z1 := Blk.cell hSw 1; have z2 := Blk.cell hSw 2; have z3 := Blk.cell hSw 3; have z4 := Blk.cell hSw 4; have z5 := Blk.cell hSw 5; have z6 := Blk.cell hSw 6; have z7 := Blk.cell hSw 7; have z8 := Blk.cell hSw 8; have z9 := Blk.cell hSw 9; have z10 := Blk.cell hSw 10; have z11 := Blk.cell hSw 11; have z12 := Blk.cell hSw 12; clear hSw; go_simp; try with_reducible rfl)
  try simp only [Act.put, q1, q2, q3, q4, q5, q6]
  refine wpAnyH_take (i := 1) (v := ?m2_v1) rfl (by kernel_rfl) (by kernel_rfl) (by kernel_rfl) (by intro _ _ _ h; exact h) (Or.inl ⟨by rfl, ?m2_hy1⟩) (by assumption) ?m2_rest1
  case m2_hy1 => (intro w hSw; (try dsimp only at hSw); have z0 := Blk.cell hSw 0; have z1 := Blk.cell hSw 1; have z2 := Blk.cell hSw 2; have z3 := Blk.cell hSw 3; have z4 := Blk.cell hSw 4; have z5 := Blk.cell hSw 5; have z6 := Blk.cell hSw 6; have z7 := Blk.cell hSw 7; have z8 := Blk.cell hSw 8; have z9 := Blk.cell hSw 9; have z10 := Blk.cell hSw 10; have z11 := Blk.cell hSw 11; have z12 := Blk.cell hSw 12; clear hSw; go_simp; try with_reducible rfl)
  try simp only [Act.put, q1, q2, q3, q4, q5, q6]
  refine wpAnyH_ready (rs := [2, 3]) (by kernel_rfl) (by simp) ?_
  refine AllReadyH.cons rfl (fun K hK => ?_) (AllReadyH.cons rfl (fun K hK => ?_) AllReadyH.nil)
  ·skip
   have HX3e := Lib.hid X3e
   have HX3g := Lib.hid (X3e.rowFar (k := q13) (by omega) #[.slice Ag ng cg, .int .i64 o, .slice A n c, .int .u32 nx, .int .i64 md, .int .i64 pf, .bool at_, .bool ha, .int .u32 gs, .int .u32 ga, .slice A1 n1 c1, .slice A2 n2 c2, .slice An nn cn])
   have HX3f := Lib.hid ((X3e.rowFar (k := q13) (by omega) #[.slice Ag ng cg, .int .i64 o, .slice A n c, .int .u32 nx, .int .i64 md, .int .i64 pf, .bool at_, .bool ha, .int .u32 gs, .int .u32 ga, .slice A1 n1 c1, .slice A2 n2 c2, .slice An nn cn]).rowFar (k := q14) (by omega) #[.slice Ag ng cg, .int .i64 o, .slice A n c, .int .u32 nx, .int .i64 md, .int .i64 pf, .bool at_, .bool ha, .int .u32 gs, .int .u32 ga, .slice A1 n1 c1, .slice A2 n2 c2, .slice An nn cn])
   have Ybb := Y14.rowFar (k := q13) (by omega) #[.slice Ag ng cg, .int .i64 o, .slice A n c, .int .u32 nx, .int .i64 md, .int .i64 pf, .bool at_, .bool ha, .int .u32 gs, .int .u32 ga, .slice A1 n1 c1, .slice A2 n2 c2, .slice An nn cn]
   go_simp
   go_wp2_with (fail)
   refine hK.out _ _ ?_ (fun hHeld => ?_)
   ·try dsimp only
    exact X3d.alloc _
   clear hK K
   refine tkr 3 fun K hK => ?_
   go_simp
   go_wp2_with (fail)
   refine hK.out _ _ ?_ (fun hHeld => ?_)
   ·try dsimp only
    rw [HW2.out]; exact HX3e.out
   clear hK K
   rw [HW2.out]
   try rw [HQ13.out]
   try rw [HQ14.out]
   refine tkr 4 fun K hK => ?_
   refine step_row rfl 77 (.tmp 13) (.tmp 33) rfl q13 #[.slice Ag ng cg, .int .i64 o, .slice A n c, .int .u32 nx, .int .i64 md, .int .i64 pf, .bool at_, .bool ha, .int .u32 gs, .int .u32 ga, .slice A1 n1 c1, .slice A2 n2 c2, .slice An nn cn] (by rfl) (by rfl) 77 #[.slice none 0 0, .int .i64 0, .slice none 0 0, .int .u32 0, .int .i64 0, .int .i64 0, .bool false, .bool false, .int .u32 0, .int .u32 0, .slice none 0 0, .slice none 0 0, .slice none 0 0] Y13 upd_info1 rfl (by kernel_rfl) ?_
   refine hK.out _ _ ?_ (fun hHeld => ?_)
   ·try dsimp only
    exact HX3g.out
   clear hK K
   refine tkr 5 fun K hK => ?_
   refine step_row rfl 77 (.tmp 14) (.tmp 34) rfl q14 #[.slice Ag ng cg, .int .i64 o, .slice A n c, .int .u32 nx, .int .i64 md, .int .i64 pf, .bool at_, .bool ha, .int .u32 gs, .int .u32 ga, .slice A1 n1 c1, .slice A2 n2 c2, .slice An nn cn] (by rfl) (by rfl) 77 #[.slice none 0 0, .int .i64 0, .slice none 0 0, .int .u32 0, .int .i64 0, .int .i64 0, .bool false, .bool false, .int .u32 0, .int .u32 0, .slice none 0 0, .slice none 0 0, .slice none 0 0] Ybb upd_info1 rfl (by kernel_rfl) ?_
   refine hK.out _ _ ?_ (fun hHeld => ?_)
   ·try dsimp only
    exact HX3f.out
   clear hK K
   refine wpAnyH_done (by kernel_rfl) ?_ _
   have g1 := row_grown W2 q13 #[.slice Ag ng cg, .int .i64 o, .slice A n c, .int .u32 nx, .int .i64 md, .int .i64 pf, .bool at_, .bool ha, .int .u32 gs, .int .u32 ga, .slice A1 n1 c1, .slice A2 n2 c2, .slice An nn cn]
   have g2 := row_grown (W2.setRow q13 #[.slice Ag ng cg, .int .i64 o, .slice A n c, .int .u32 nx, .int .i64 md, .int .i64 pf, .bool at_, .bool ha, .int .u32 gs, .int .u32 ga, .slice A1 n1 c1, .slice A2 n2 c2, .slice An nn cn]) q14 #[.slice Ag ng cg, .int .i64 o, .slice A n c, .int .u32 nx, .int .i64 md, .int .i64 pf, .bool at_, .bool ha, .int .u32 gs, .int .u32 ga, .slice A1 n1 c1, .slice A2 n2 c2, .slice An nn cn]
   have HH := Lib.hid (show Pair5 (w1) ((W2.setRow q13 #[.slice Ag ng cg, .int .i64 o, .slice A n c, .int .u32 nx, .int .i64 md, .int .i64 pf, .bool at_, .bool ha, .int .u32 gs, .int .u32 ga, .slice A1 n1 c1, .slice A2 n2 c2, .slice An nn cn]).setRow q14 #[.slice Ag ng cg, .int .i64 o, .slice A n c, .int .u32 nx, .int .i64 md, .int .i64 pf, .bool at_, .bool ha, .int .u32 gs, .int .u32 ga, .slice A1 n1 c1, .slice A2 n2 c2, .slice An nn cn]) #[.slice Ag ng cg, .int .i64 o, .slice A n c, .int .u32 nx, .int .i64 md, .int .i64 pf, .bool at_, .bool ha, .int .u32 gs, .int .u32 ga, .slice A1 n1 c1, .slice A2 n2 c2, .slice An nn cn] #[.slice none 0 0, .int .i64 0, .slice none 0 0, .int .u32 0, .int .i64 0, .int .i64 0, .bool false, .bool false, .int .u32 0, .int .u32 0, .slice none 0 0, .slice none 0 0, .slice none 0 0] q3 q7 q13 q14 from
    ⟨(b0x.grown g1 b0x.size (fun k hk => by injection hk with hk; omega)).grown g2 (by rw [row_size]; exact b0x.size) (fun k hk => by injection hk with hk; omega), HX3f.out, (X7e.rowFar (by omega) _).rowFar (by omega) _, (Y13.row _).rowFar (by omega) _, (Y14.rowFar (by omega) _).row _, by omega, by omega, by omega⟩)
   obtain ⟨w5, hw5⟩ : ∃ x, ((W2.setRow q13 #[.slice Ag ng cg, .int .i64 o, .slice A n c, .int .u32 nx, .int .i64 md, .int .i64 pf, .bool at_, .bool ha, .int .u32 gs, .int .u32 ga, .slice A1 n1 c1, .slice A2 n2 c2, .slice An nn cn]).setRow q14 #[.slice Ag ng cg, .int .i64 o, .slice A n c, .int .u32 nx, .int .i64 md, .int .i64 pf, .bool at_, .bool ha, .int .u32 gs, .int .u32 ga, .slice A1 n1 c1, .slice A2 n2 c2, .slice An nn cn]) = x := ⟨_, rfl⟩
   rw [hw5] at HH
   rw [hw5]
   obtain ⟨qa, hqa⟩ : ∃ x, q13 = x := ⟨_, rfl⟩
   obtain ⟨qb, hqb⟩ : ∃ x, q14 = x := ⟨_, rfl⟩
   rw [hqa, hqb] at HH
   rw [hqa, hqb]
   clear hw5 hqa hqb
   revert qa qb w5 HH
   exact HG.out
  ·skip
   have HX3e := Lib.hid X3e
   have HX3g := Lib.hid (X3e.rowFar (k := q14) (by omega) #[.slice Ag ng cg, .int .i64 o, .slice A n c, .int .u32 nx, .int .i64 md, .int .i64 pf, .bool at_, .bool ha, .int .u32 gs, .int .u32 ga, .slice A1 n1 c1, .slice A2 n2 c2, .slice An nn cn])
   have HX3f := Lib.hid ((X3e.rowFar (k := q14) (by omega) #[.slice Ag ng cg, .int .i64 o, .slice A n c, .int .u32 nx, .int .i64 md, .int .i64 pf, .bool at_, .bool ha, .int .u32 gs, .int .u32 ga, .slice A1 n1 c1, .slice A2 n2 c2, .slice An nn cn]).rowFar (k := q13) (by omega) #[.slice Ag ng cg, .int .i64 o, .slice A n c, .int .u32 nx, .int .i64 md, .int .i64 pf, .bool at_, .bool ha, .int .u32 gs, .int .u32 ga, .slice A1 n1 c1, .slice A2 n2 c2, .slice An nn cn])
   have Ybb := Y13.rowFar (k := q14) (by omega) #[.slice Ag ng cg, .int .i64 o, .slice A n c, .int .u32 nx, .int .i64 md, .int .i64 pf, .bool at_, .bool ha, .int .u32 gs, .int .u32 ga, .slice A1 n1 c1, .slice A2 n2 c2, .slice An nn cn]
   go_simp
   go_wp2_with (fail)
   refine hK.out _ _ ?_ (fun hHeld => ?_)
   ·try dsimp only
    exact X3d.alloc _
   clear hK K
   refine tkr 2 fun K hK => ?_
   go_simp
   go_wp2_with (fail)
   refine hK.out _ _ ?_ (fun hHeld => ?_)
   ·try dsimp only
    rw [HW2.out]; exact HX3e.out
   clear hK K
   rw [HW2.out]
   try rw [HQ13.out]
   try rw [HQ14.out]
   refine tkr 4 fun K hK => ?_
   refine step_row rfl 77 (.tmp 13) (.tmp 33) rfl q14 #[.slice Ag ng cg, .int .i64 o, .slice A n c, .int .u32 nx, .int .i64 md, .int .i64 pf, .bool at_, .bool ha, .int .u32 gs, .int .u32 ga, .slice A1 n1 c1, .slice A2 n2 c2, .slice An nn cn] (by rfl) (by rfl) 77 #[.slice none 0 0, .int .i64 0, .slice none 0 0, .int .u32 0, .int .i64 0, .int .i64 0, .bool false, .bool false, .int .u32 0, .int .u32 0, .slice none 0 0, .slice none 0 0, .slice none 0 0] Y14 upd_info1 rfl (by kernel_rfl) ?_
   refine hK.out _ _ ?_ (fun hHeld => ?_)
   ·try dsimp only
    exact HX3g.out
   clear hK K
   refine tkr 5 fun K hK => ?_
   refine step_row rfl 77 (.tmp 14) (.tmp 34) rfl q13 #[.slice Ag ng cg, .int .i64 o, .slice A n c, .int .u32 nx, .int .i64 md, .int .i64 pf, .bool at_, .bool ha, .int .u32 gs, .int .u32 ga, .slice A1 n1 c1, .slice A2 n2 c2, .slice An nn cn] (by rfl) (by rfl) 77 #[.slice none 0 0, .int .i64 0, .slice none 0 0, .int .u32 0, .int .i64 0, .int .i64 0, .bool false, .bool false, .int .u32 0, .int .u32 0, .slice none 0 0, .slice none 0 0, .slice none 0 0] Ybb upd_info1 rfl (by kernel_rfl) ?_
   refine hK.out _ _ ?_ (fun hHeld => ?_)
   ·try dsimp only
    exact HX3f.out
   clear hK K
   refine wpAnyH_done (by kernel_rfl) ?_ _
   have g1 := row_grown W2 q14 #[.slice Ag ng cg, .int .i64 o, .slice A n c, .int .u32 nx, .int .i64 md, .int .i64 pf, .bool at_, .bool ha, .int .u32 gs, .int .u32 ga, .slice A1 n1 c1, .slice A2 n2 c2, .slice An nn cn]
   have g2 := row_grown (W2.setRow q14 #[.slice Ag ng cg, .int .i64 o, .slice A n c, .int .u32 nx, .int .i64 md, .int .i64 pf, .bool at_, .bool ha, .int .u32 gs, .int .u32 ga, .slice A1 n1 c1, .slice A2 n2 c2, .slice An nn cn]) q13 #[.slice Ag ng cg, .int .i64 o, .slice A n c, .int .u32 nx, .int .i64 md, .int .i64 pf, .bool at_, .bool ha, .int .u32 gs, .int .u32 ga, .slice A1 n1 c1, .slice A2 n2 c2, .slice An nn cn]
   have HH := Lib.hid (show Pair5 (w1) ((W2.setRow q14 #[.slice Ag ng cg, .int .i64 o, .slice A n c, .int .u32 nx, .int .i64 md, .int .i64 pf, .bool at_, .bool ha, .int .u32 gs, .int .u32 ga, .slice A1 n1 c1, .slice A2 n2 c2, .slice An nn cn]).setRow q13 #[.slice Ag ng cg, .int .i64 o, .slice A n c, .int .u32 nx, .int .i64 md, .int .i64 pf, .bool at_, .bool ha, .int .u32 gs, .int .u32 ga, .slice A1 n1 c1, .slice A2 n2 c2, .slice An nn cn]) #[.slice Ag ng cg, .int .i64 o, .slice A n c, .int .u32 nx, .int .i64 md, .int .i64 pf, .bool at_, .bool ha, .int .u32 gs, .int .u32 ga, .slice A1 n1 c1, .slice A2 n2 c2, .slice An nn cn] #[.slice none 0 0, .int .i64 0, .slice none 0 0, .int .u32 0, .int .i64 0, .int .i64 0, .bool false, .bool false, .int .u32 0, .int .u32 0, .slice none 0 0, .slice none 0 0, .slice none 0 0] q3 q7 q14 q13 from
    ⟨(b0x.grown g1 b0x.size (fun k hk => by injection hk with hk; omega)).grown g2 (by rw [row_size]; exact b0x.size) (fun k hk => by injection hk with hk; omega), HX3f.out, (X7e.rowFar (by omega) _).rowFar (by omega) _, (Y14.row _).rowFar (by omega) _, (Y13.rowFar (by omega) _).row _, by omega, by omega, by omega⟩)
   obtain ⟨w5, hw5⟩ : ∃ x, ((W2.setRow q14 #[.slice Ag ng cg, .int .i64 o, .slice A n c, .int .u32 nx, .int .i64 md, .int .i64 pf, .bool at_, .bool ha, .int .u32 gs, .int .u32 ga, .slice A1 n1 c1, .slice A2 n2 c2, .slice An nn cn]).setRow q13 #[.slice Ag ng cg, .int .i64 o, .slice A n c, .int .u32 nx, .int .i64 md, .int .i64 pf, .bool at_, .bool ha, .int .u32 gs, .int .u32 ga, .slice A1 n1 c1, .slice A2 n2 c2, .slice An nn cn]) = x := ⟨_, rfl⟩
   rw [hw5] at HH
   rw [hw5]
   obtain ⟨qa, hqa⟩ : ∃ x, q14 = x := ⟨_, rfl⟩
   obtain ⟨qb, hqb⟩ : ∃ x, q13 = x := ⟨_, rfl⟩
   rw [hqa, hqb] at HH
   rw [hqa, hqb]
   clear hw5 hqa hqb
   revert qa qb w5 HH
   exact HG.out
 intro w5 qa qb HH
 refine HK5.out _ _ ?_
 obtain ⟨b5, R3, R7, R13, R14, hqa, hqb, hab⟩ := HH.out
 have b05 := btr b01 b5 b01.size
 have h7a : q7 < qa := by have := X7.lt; omega
 have h7b : q7 < qb := by have := X7.lt; omega
 have hwa : w.heap.size ≤ qa := by omega
 have hwb : w.heap.size ≤ qb := by omega
 clear HH HK5 X3 X7
 have t1 : decide (0 < ng) = true := decide_eq_true (by have := hg.len; omega)
 have wr4 : IntKind.i64.wrap (room - 4) = room - 4 := IntWalk.i64_in _ ⟨by omega, by omega⟩
 have hok : gone.all okQ = true := by
  unfold updOk at hk
  simp only [Bool.and_eq_true] at hk
  exact hk.1.1
 have hkl := fitsN_le gone (room - 4)
 rw [hkk] at hkl
 have hkn : k ≤ ng := by have := hg.len; omega
 have hkc : k ≤ cg := by omega
 have HFT := Lib.hid (show Calls Tryz.prog 99 #[.slice Ag ng cg, .int .i64 (room - 4)] w5 (fun en w' => en = .returned (.int .i64 (k : Nat)) ∧ Below w5.heap.size w5 w') by
  have := updFits Ag ng cg gone (room - 4) w5 (hg.pfxB5 b05) hok hz.2.2.1 ⟨by omega, by omega⟩
  rw [hkk] at this
  exact this)
 have HKKK := Lib.hid hkk
 have HOK := Lib.hid hok
 have HKN := Lib.hid hkn
 have HKC := Lib.hid hkc
 have HGN := Lib.hid hg.len
 have hng0 : 0 < ng := by have := hg.len; omega
 have hng1 : ng ≤ 10000 := hz.2.2.1
 have hcap2 := hcap
 clear hkk hok hkn hkc hkl hg0 hk hmn hmx hm4 hm0 hr0 hr1 hcap hz
 have hroom := Lib.hid hroom
 have c_R30 := R3.cell 0
 go_wp2_with fail
 refine HFT.out.mono ?_
 rintro _ w6 ⟨rfl, b6⟩
 clear c_R30
 have b06 := btr b05 b6 b05.size
 have R3_6 := R3.below b6 R3.lt
 have R7_6 := R7.below b6 R7.lt
 have R13_6 := R13.below b6 R13.lt
 have R14_6 := R14.below b6 R14.lt
 have c_R30 := R3_6.cell 0
 have hki : (k : Int) ≤ cg := by have := HKC.out; omega
 have hki2 : (k : Int) ≤ ng := by have := HKN.out; omega
 have c_R130 := R13_6.cell 0
 have f_R130 := R13_6.frozen 0
 have c_R131 := R13_6.cell 1
 have f_R131 := R13_6.frozen 1
 have c_R132 := R13_6.cell 2
 have f_R132 := R13_6.frozen 2
 have c_R133 := R13_6.cell 3
 have f_R133 := R13_6.frozen 3
 have c_R134 := R13_6.cell 4
 have f_R134 := R13_6.frozen 4
 have c_R135 := R13_6.cell 5
 have f_R135 := R13_6.frozen 5
 have c_R136 := R13_6.cell 6
 have f_R136 := R13_6.frozen 6
 have c_R137 := R13_6.cell 7
 have f_R137 := R13_6.frozen 7
 have c_R138 := R13_6.cell 8
 have f_R138 := R13_6.frozen 8
 have c_R139 := R13_6.cell 9
 have f_R139 := R13_6.frozen 9
 have c_R1310 := R13_6.cell 10
 have f_R1310 := R13_6.frozen 10
 have c_R1311 := R13_6.cell 11
 have f_R1311 := R13_6.frozen 11
 have c_R1312 := R13_6.cell 12
 have f_R1312 := R13_6.frozen 12
 go_upto_region 10 with fail
 have gu := upd_grown (q := qa) (x0 := .slice Ag k cg) (x1 := .int .i64 0) (x2 := .slice none 0 0) (x3 := .int .u32 0) (x4 := .int .i64 0) (x5 := .int .i64 0) (x6 := .bool false) (x7 := .bool false) (x8 := .int .u32 0) (x9 := .int .u32 0) (x10 := .slice none 0 0) (x11 := .slice none 0 0) (x12 := .slice none 0 0) w6
 have R3n := R3_6.grown gu (by intro e; injection e with e; omega)
 have R7n := R7_6.grown gu (by intro e; injection e with e; omega)
 have R13n := upd_store (x0 := .slice Ag k cg) (x1 := .int .i64 0) (x2 := .slice none 0 0) (x3 := .int .u32 0) (x4 := .int .i64 0) (x5 := .int .i64 0) (x6 := .bool false) (x7 := .bool false) (x8 := .int .u32 0) (x9 := .int .u32 0) (x10 := .slice none 0 0) (x11 := .slice none 0 0) (x12 := .slice none 0 0) R13_6
 have R14n := R14_6.grown gu (by intro e; injection e with e; omega)
 have b_w7 := (b06).grown gu (b06).size (fun k hk => by injection hk with hk; omega)
 obtain ⟨w7, h_w7⟩ : ∃ X, (World.setCell (World.setCell (World.setCell (World.setCell (World.setCell (World.setCell (World.setCell (World.setCell (World.setCell (World.setCell (World.setCell (World.setCell (World.setCell w6 ⟨qa, 0, none⟩ (.slice Ag k cg)) ⟨qa, 1, none⟩ (.int .i64 0)) ⟨qa, 2, none⟩ (.slice none 0 0)) ⟨qa, 3, none⟩ (.int .u32 0)) ⟨qa, 4, none⟩ (.int .i64 0)) ⟨qa, 5, none⟩ (.int .i64 0)) ⟨qa, 6, none⟩ (.bool false)) ⟨qa, 7, none⟩ (.bool false)) ⟨qa, 8, none⟩ (.int .u32 0)) ⟨qa, 9, none⟩ (.int .u32 0)) ⟨qa, 10, none⟩ (.slice none 0 0)) ⟨qa, 11, none⟩ (.slice none 0 0)) ⟨qa, 12, none⟩ (.slice none 0 0)) = X := ⟨_, rfl⟩
 rw [h_w7] at gu b_w7 R3n R7n R13n R14n
 rw [h_w7]
 have z_w7 := gu.size
 clear h_w7 gu
 clear c_R30
 clear c_R130 f_R130 c_R131 f_R131 c_R132 f_R132 c_R133 f_R133 c_R134 f_R134 c_R135 f_R135 c_R136 f_R136 c_R137 f_R137 c_R138 f_R138 c_R139 f_R139 c_R1310 f_R1310 c_R1311 f_R1311 c_R1312 f_R1312
 have c_R3n0 := R3n.cell 0
 have c_R14n0 := R14n.cell 0
 have f_R14n0 := R14n.frozen 0
 go_upto_region 15 with fail
 obtain ⟨Ad, hAd⟩ : ∃ x, (if cg = k then Ag else Option.map (fun x => x.add (k * 2)) Ag) = x := ⟨_, rfl⟩
 rw [hAd]
 have HAD := Lib.hid hAd
 obtain ⟨nr, hnr⟩ : ∃ x, ng - k = x := ⟨_, rfl⟩
 obtain ⟨cr, hcr⟩ : ∃ x, cg - k = x := ⟨_, rfl⟩
 rw [hnr, hcr]
 have HNR := Lib.hid hnr
 have HCR := Lib.hid hcr
 clear hAd hnr hcr
 obtain ⟨w8, hw8⟩ : ∃ Wz_, w7.setCell ⟨qb, 0, none⟩ (.slice Ad nr cr)= Wz_ := ⟨_, rfl⟩
 have R3n_8 := R3n.far (p := ⟨qb, 0, none⟩) (by show _ ≠ qb; omega) (.slice Ad nr cr)
 have R7n_8 := R7n.far (p := ⟨qb, 0, none⟩) (by show _ ≠ qb; omega) (.slice Ad nr cr)
 have R13n_8 := R13n.far (p := ⟨qb, 0, none⟩) (by show _ ≠ qb; omega) (.slice Ad nr cr)
 have R14n_8 := R14n.set_ 0 (.slice Ad nr cr)
 simp only [List.setIfInBounds_toArray, List.set_cons_succ, List.set_cons_zero] at R14n_8
 have b08 := b_w7.setCell (p := ⟨qb, 0, none⟩) (by show _ ≤ qb; omega) (.slice Ad nr cr)
 have z_8 : w7.heap.size ≤ w8.heap.size := by rw [← hw8]; simp [World.setCell]
 rw [hw8] at R3n_8 R7n_8 R13n_8 R14n_8 b08
 rw [hw8]
 clear hw8
 clear c_R3n0 c_R14n0 f_R14n0
 have c_R3n0 := R3n_8.cell 0
 have c_R14n0 := R14n_8.cell 0
 have f_R14n0 := R14n_8.frozen 0
 have HK0 := Lib.hid (show 0 < k by rw [← HKKK.out]; exact fitsN_pos (by have := HGN.out; have := hng0; omega) HOK.out (by have := hroom.out; omega))
 have HPU := Lib.hid (show ∀ w', DL rPfx 2 w' (Lo w') Ag k (gone.take k) → LookTab w' → Calls Tryz.prog 36 #[.agg #[.slice Ag k cg, .int .i64 0, .slice none 0 0, .int .u32 0, .int .i64 0, .int .i64 0, .bool false, .bool false, .int .u32 0, .int .u32 0, .slice none 0 0, .slice none 0 0, .slice none 0 0], .bool true] w' (RetPut w' (updB (pfxB (gone.take k)) [] []) 0) from fun w' h1 h2 => by
  have h3 := updPut5 Ag k cg (gone.take k) 0 none 0 0 [] 0 0 0 false false 0 0 none 0 0 [] none 0 0 [] none 0 0 [] w' h1 DL.none_ NF.none_ DL.none_ DL.none_ (Lib.hid (by decide)) (Lib.hid (by decide)) ⟨by omega, by omega, by have := HKN.out; have := hng1; omega, by omega⟩ h2
  have h4 := fitsN_room gone (room - 4) HOK.out (by rw [HKKK.out]; exact HK0.out)
  rw [HKKK.out] at h4
  rw [put_gone (okQ_take HOK.out k) (by have := hroom.out; omega)] at h3
  exact h3)
 have k1 : ((k : Int) == 0) = false := by have := HK0.out; simp; omega
 have k2 : (k == 0) = false := by have := HK0.out; simp; omega
 have wk : IntKind.i64.wrap ((k : Int) + 0) = (k : Int) := by rw [Int.add_zero]; exact IntWalk.i64_in _ ⟨by omega, by have := HKN.out; have := hng1; omega⟩
 have wk2 : IntKind.i64.wrap (k : Int) = (k : Int) := IntWalk.i64_in _ ⟨by omega, by have := HKN.out; have := hng1; omega⟩
 have c_R13n0 := R13n_8.cell 0
 have c_R13n1 := R13n_8.cell 1
 have c_R13n2 := R13n_8.cell 2
 have c_R13n3 := R13n_8.cell 3
 have c_R13n4 := R13n_8.cell 4
 have c_R13n5 := R13n_8.cell 5
 have c_R13n6 := R13n_8.cell 6
 have c_R13n7 := R13n_8.cell 7
 have c_R13n8 := R13n_8.cell 8
 have c_R13n9 := R13n_8.cell 9
 have c_R13n10 := R13n_8.cell 10
 have c_R13n11 := R13n_8.cell 11
 have c_R13n12 := R13n_8.cell 12
 clear c_R14n0 f_R14n0
 have c_R14n12 := R14n_8.cell 12
 by_cases hn0 : nn = 0
 case pos =>
  have tn : ((nn : Int) == 0) = true := by simp [hn0]
  have tn2 : (nn == 0) = true := by simp [hn0]
  have HZ := Lib.hid (show decide (news.length = 0) = true from decide_eq_true (by have := hm.len; omega))
  clear hn0
  clear c_R14n12
  have c_R14n0 := R14n_8.cell 0
  have f_R14n0 := R14n_8.frozen 0
  have c_R14n1 := R14n_8.cell 1
  have f_R14n1 := R14n_8.frozen 1
  have c_R14n2 := R14n_8.cell 2
  have f_R14n2 := R14n_8.frozen 2
  have c_R14n3 := R14n_8.cell 3
  have f_R14n3 := R14n_8.frozen 3
  have c_R14n4 := R14n_8.cell 4
  have f_R14n4 := R14n_8.frozen 4
  have c_R14n5 := R14n_8.cell 5
  have f_R14n5 := R14n_8.frozen 5
  have c_R14n6 := R14n_8.cell 6
  have f_R14n6 := R14n_8.frozen 6
  have c_R14n7 := R14n_8.cell 7
  have f_R14n7 := R14n_8.frozen 7
  have c_R14n8 := R14n_8.cell 8
  have f_R14n8 := R14n_8.frozen 8
  have c_R14n9 := R14n_8.cell 9
  have f_R14n9 := R14n_8.frozen 9
  have c_R14n10 := R14n_8.cell 10
  have f_R14n10 := R14n_8.frozen 10
  have c_R14n11 := R14n_8.cell 11
  have f_R14n11 := R14n_8.frozen 11
  have c_R14n12 := R14n_8.cell 12
  have f_R14n12 := R14n_8.frozen 12
  go_upto_region 19 with fail
  have gA := att_in_grown (q := qb) (x0 := .int .i64 0) (x1 := .slice none 0 0) (x2 := .int .u32 0) (x3 := .int .i64 0) (x4 := .int .i64 0) (x5 := .bool false) (x6 := .bool false) (x7 := .int .u32 0) (x8 := .int .u32 0) (x9 := .slice none 0 0) (x10 := .slice none 0 0) w8
  have R14m := att_in (x0 := .int .i64 0) (x1 := .slice none 0 0) (x2 := .int .u32 0) (x3 := .int .i64 0) (x4 := .int .i64 0) (x5 := .bool false) (x6 := .bool false) (x7 := .int .u32 0) (x8 := .int .u32 0) (x9 := .slice none 0 0) (x10 := .slice none 0 0) R14n_8
  have R13m := R13n_8.grown gA (by intro e; injection e with e; omega)
  have R7m := R7n_8.grown gA (by intro e; injection e with e; omega)
  have b_9 := (b08).grown gA (b08).size (fun k hk => by injection hk with hk; omega)
  obtain ⟨w9, h_9⟩ : ∃ X, (World.setCell (World.setCell (World.setCell (World.setCell (World.setCell (World.setCell (World.setCell (World.setCell (World.setCell (World.setCell (World.setCell w8 ⟨qb, 1, none⟩ (.int .i64 0)) ⟨qb, 2, none⟩ (.slice none 0 0)) ⟨qb, 3, none⟩ (.int .u32 0)) ⟨qb, 4, none⟩ (.int .i64 0)) ⟨qb, 5, none⟩ (.int .i64 0)) ⟨qb, 6, none⟩ (.bool false)) ⟨qb, 7, none⟩ (.bool false)) ⟨qb, 8, none⟩ (.int .u32 0)) ⟨qb, 9, none⟩ (.int .u32 0)) ⟨qb, 10, none⟩ (.slice none 0 0)) ⟨qb, 11, none⟩ (.slice none 0 0)) = X := ⟨_, rfl⟩
  rw [h_9] at R14m R13m R7m b_9
  rw [h_9]
  clear h_9 gA
  clear c_R3n0
  clear c_R13n0 c_R13n1 c_R13n2 c_R13n3 c_R13n4 c_R13n5 c_R13n6 c_R13n7 c_R13n8 c_R13n9 c_R13n10 c_R13n11 c_R13n12
  clear c_R14n0 f_R14n0 c_R14n1 f_R14n1 c_R14n2 f_R14n2 c_R14n3 f_R14n3 c_R14n4 f_R14n4 c_R14n5 f_R14n5 c_R14n6 f_R14n6 c_R14n7 f_R14n7 c_R14n8 f_R14n8 c_R14n9 f_R14n9 c_R14n10 f_R14n10 c_R14n11 f_R14n11 c_R14n12 f_R14n12
  have c_R13m0 := R13m.cell 0
  have c_R13m1 := R13m.cell 1
  have c_R13m2 := R13m.cell 2
  have c_R13m3 := R13m.cell 3
  have c_R13m4 := R13m.cell 4
  have c_R13m5 := R13m.cell 5
  have c_R13m6 := R13m.cell 6
  have c_R13m7 := R13m.cell 7
  have c_R13m8 := R13m.cell 8
  have c_R13m9 := R13m.cell 9
  have c_R13m10 := R13m.cell 10
  have c_R13m11 := R13m.cell 11
  have c_R13m12 := R13m.cell 12
  have Y7m := R7m.lt
  have hgt := (hg.pfxB5 b_9).take_ (k := k) HKN.out
  go_wp2_with fail
  refine (HPU.out _ hgt (ht.call b_9)).mono ?_
  rintro _ w10 ⟨Ab, nb, cb, rfl, ob, b10⟩
  clear c_R13m0 c_R13m1 c_R13m2 c_R13m3 c_R13m4 c_R13m5 c_R13m6 c_R13m7 c_R13m8 c_R13m9 c_R13m10 c_R13m11 c_R13m12
  have b010 := btr b_9 b10 b_9.size
  have R7m_10 := R7m.below b10 R7m.lt
  have R13m_10 := R13m.below b10 R13m.lt
  have R14m_10 := R14m.below b10 R14m.lt
  have c_R13m0 := R13m_10.cell 0
  have c_R13m1 := R13m_10.cell 1
  have c_R13m2 := R13m_10.cell 2
  have c_R13m3 := R13m_10.cell 3
  have c_R13m4 := R13m_10.cell 4
  have c_R13m5 := R13m_10.cell 5
  have c_R13m6 := R13m_10.cell 6
  have c_R13m7 := R13m_10.cell 7
  have c_R13m8 := R13m_10.cell 8
  have c_R13m9 := R13m_10.cell 9
  have c_R13m10 := R13m_10.cell 10
  have c_R13m11 := R13m_10.cell 11
  have c_R13m12 := R13m_10.cell 12
  clear c_R13m0 c_R13m1 c_R13m2 c_R13m3 c_R13m4 c_R13m5 c_R13m6 c_R13m7 c_R13m8 c_R13m9 c_R13m10 c_R13m11 c_R13m12
  have sb := ob.bs
  have Y7 := R7m_10
  have Y14 := R14m_10
  have bF := b010
  go_upto_region 20 with fail
  rename_i hk20
  have HK20 := Lib.hid hk20
  clear hk20
  obtain ⟨wd, hwd⟩ : ∃ x, w10.drew = x := ⟨_, rfl⟩
  have bd0 : Below w10.heap.size w10 w10.drew := (Below.refl _ _).drew
  rw [hwd] at bd0
  have Y7d := Y7.below bd0 Y7.lt
  have Y14d := Y14.below bd0 Y14.lt
  have HY14 := Lib.hid (Y14d.rowFar (k := q7) (by omega) #[.slice Ad nr cr, .int .i64 0, .slice none 0 0, .int .u32 0, .int .i64 0, .int .i64 0, .bool false, .bool false, .int .u32 0, .int .u32 0, .slice none 0 0, .slice none 0 0, .slice An nn cn])
  have HWD := Lib.hid hwd
  clear hwd
  refine wp_region_held_drew (S := (fun w' => Blk w' qb 77 #[.slice Ad nr cr, .int .i64 0, .slice none 0 0, .int .u32 0, .int .i64 0, .int .i64 0, .bool false, .bool false, .int .u32 0, .int .u32 0, .slice none 0 0, .slice none 0 0, .slice An nn cn])) (by kernel_rfl) ?_ (fun hHeld => ?_)
  ·rw [HWD.out]; exact Y14d
  rw [HWD.out]
  rw [HWD.out] at hHeld
  refine tkh 0 (h := ?_)
  try simp only [Act.put, q1, q2, q3, q4, q5, q6]
  refine wpAnyH_take (i := 1) (v := ?m4_v1) rfl (by kernel_rfl) (by kernel_rfl) (by kernel_rfl) (by intro _ _ _ h; exact h) (Or.inl ⟨by rfl, ?m4_hy1⟩) (by assumption) ?m4_rest1
  case m4_hy1 => (intro w hSw; (try dsimp only at hSw); have z0 := Blk.cell hSw 0; have z1 := Blk.cell hSw 1; have z2 := Blk.cell hSw 2; have z3 := Blk.cell hSw 3; have z4 := Blk.cell hSw 4; have z5 := Blk.cell hSw 5; have z6 := Blk.cell hSw 6; have z7 := Blk.cell hSw 7; have z8 := Blk.cell hSw 8; have z9 := Blk.cell hSw 9; have z10 := Blk.cell hSw 10; have z11 := Blk.cell hSw 11; have z12 := Blk.cell hSw 12; clear hSw; go_simp; try with_reducible rfl)
  try simp only [Act.put, q1, q2, q3, q4, q5, q6]
  refine tkh 2 (h := ?_)
  try simp only [Act.put, q1, q2, q3, q4, q5, q6]
  refine tkr 3 fun K hK => ?_
  go_simp
  go_wp2_with (fail)
  refine hK.out _ _ ?_ (fun hHeld => ?_)
  ·try dsimp only
   exact Y14d
  clear hK K
  refine tkr 4 fun K hK => ?_
  refine step_row rfl 77 (.tmp 7) (.tmp 101) rfl q7 #[.slice Ad nr cr, .int .i64 0, .slice none 0 0, .int .u32 0, .int .i64 0, .int .i64 0, .bool false, .bool false, .int .u32 0, .int .u32 0, .slice none 0 0, .slice none 0 0, .slice An nn cn] (by rfl) (by rfl) 77 #[.slice none 0 0, .int .i64 0, .slice none 0 0, .int .u32 0, .int .i64 0, .int .i64 0, .bool false, .bool false, .int .u32 0, .int .u32 0, .slice none 0 0, .slice none 0 0, .slice none 0 0] Y7d upd_info1 rfl (by kernel_rfl) ?_
  refine hK.out _ _ ?_ (fun hHeld => ?_)
  ·try dsimp only
   exact HY14.out
  clear hK K
  refine tkr 5 fun K hK => ?_
  go_simp
  go_wp2_with (fail)
  refine hK.out _ _ ?_ (fun hHeld => ?_)
  ·try dsimp only
   exact HY14.out
  clear hK K
  refine wpAnyH_done (by kernel_rfl) ?_ _
  refine HK20.out _ _ (wp_ret ?_)
  have gR := row_grown wd q7 #[.slice Ad nr cr, .int .i64 0, .slice none 0 0, .int .u32 0, .int .i64 0, .int .i64 0, .bool false, .bool false, .int .u32 0, .int .u32 0, .slice none 0 0, .slice none 0 0, .slice An nn cn]
  have bX := (btr bF bd0 bF.size).grown gR (btr bF bd0 bF.size).size (fun k hk => by injection hk with hk; omega)
  have sb2 : OB (wd.setRow q7 #[.slice Ad nr cr, .int .i64 0, .slice none 0 0, .int .u32 0, .int .i64 0, .int .i64 0, .bool false, .bool false, .int .u32 0, .int .u32 0, .slice none 0 0, .slice none 0 0, .slice An nn cn]) 5 w9.heap.size Ab nb cb (updB (pfxB (gone.take k)) [] []) := ⟨ob.1, own_keep ob.2 (fun k hk => (row_far wd q7 #[.slice Ad nr cr, .int .i64 0, .slice none 0 0, .int .u32 0, .int .i64 0, .int .i64 0, .bool false, .bool false, .int .u32 0, .int .u32 0, .slice none 0 0, .slice none 0 0, .slice An nn cn] (by have := (ob.2.lt k hk).1; have := Y7m; omega)).trans (bd0.block k (ob.2.lt k hk).2))⟩
  have hgd2 := (hgS.keep (S' := S) rPfx_ok (Kp.below bX hS)).drop_ (k := k) (c := cg) HKN.out hcap2.1
  rw [HAD.out, HNR.out] at hgd2
  have hmd2 := hmS.keep (S' := S) rPfx_ok (Kp.below bX hS)
  exact bodyPost_ret (fill_ret rfl _ _ q7 _ _ _ _ _ _ _ _ _ _ _ _ _ _ _ rfl rfl rfl (Y7d.row _)) rfl ⟨Ab, nb, cb, Ad, nr, cr, An, nn, cn, by rw [HZ.out]; rfl, sb2.bs, hgd2, hmd2, ⟨by have := HNR.out; have := HCR.out; have := hcap2; omega, hcap2.2⟩, bX⟩
 have tn : ((nn : Int) == 0) = false := by simp [hn0]
 have tn2 : (nn == 0) = false := by simp [hn0]
 have HZ := Lib.hid (show decide (news.length = 0) = false from decide_eq_false (by have := hm.len; omega))
 clear hn0
 go_upto_region 19 with fail
 have R14m := R14n_8
 have R13m := R13n_8
 have R7m := R7n_8
 have b_9 := b08
 obtain ⟨w9, h_9⟩ : ∃ X, w8 = X := ⟨_, rfl⟩
 rw [h_9] at R14m R13m R7m b_9
 rw [h_9]
 clear h_9
 clear c_R3n0
 clear c_R13n0 c_R13n1 c_R13n2 c_R13n3 c_R13n4 c_R13n5 c_R13n6 c_R13n7 c_R13n8 c_R13n9 c_R13n10 c_R13n11 c_R13n12
 clear c_R14n12
 have c_R13m0 := R13m.cell 0
 have c_R13m1 := R13m.cell 1
 have c_R13m2 := R13m.cell 2
 have c_R13m3 := R13m.cell 3
 have c_R13m4 := R13m.cell 4
 have c_R13m5 := R13m.cell 5
 have c_R13m6 := R13m.cell 6
 have c_R13m7 := R13m.cell 7
 have c_R13m8 := R13m.cell 8
 have c_R13m9 := R13m.cell 9
 have c_R13m10 := R13m.cell 10
 have c_R13m11 := R13m.cell 11
 have c_R13m12 := R13m.cell 12
 have Y7m := R7m.lt
 have hgt := (hg.pfxB5 b_9).take_ (k := k) HKN.out
 go_wp2_with fail
 refine (HPU.out _ hgt (ht.call b_9)).mono ?_
 rintro _ w10 ⟨Ab, nb, cb, rfl, ob, b10⟩
 clear c_R13m0 c_R13m1 c_R13m2 c_R13m3 c_R13m4 c_R13m5 c_R13m6 c_R13m7 c_R13m8 c_R13m9 c_R13m10 c_R13m11 c_R13m12
 have b010 := btr b_9 b10 b_9.size
 have R7m_10 := R7m.below b10 R7m.lt
 have R13m_10 := R13m.below b10 R13m.lt
 have R14m_10 := R14m.below b10 R14m.lt
 have c_R13m0 := R13m_10.cell 0
 have c_R13m1 := R13m_10.cell 1
 have c_R13m2 := R13m_10.cell 2
 have c_R13m3 := R13m_10.cell 3
 have c_R13m4 := R13m_10.cell 4
 have c_R13m5 := R13m_10.cell 5
 have c_R13m6 := R13m_10.cell 6
 have c_R13m7 := R13m_10.cell 7
 have c_R13m8 := R13m_10.cell 8
 have c_R13m9 := R13m_10.cell 9
 have c_R13m10 := R13m_10.cell 10
 have c_R13m11 := R13m_10.cell 11
 have c_R13m12 := R13m_10.cell 12
 clear c_R13m0 c_R13m1 c_R13m2 c_R13m3 c_R13m4 c_R13m5 c_R13m6 c_R13m7 c_R13m8 c_R13m9 c_R13m10 c_R13m11 c_R13m12
 have sb := ob.bs
 have Y7 := R7m_10
 have Y14 := R14m_10
 have bF := b010
 go_upto_region 20 with fail
 rename_i hk20
 have HK20 := Lib.hid hk20
 clear hk20
 obtain ⟨wd, hwd⟩ : ∃ x, w10.drew = x := ⟨_, rfl⟩
 have bd0 : Below w10.heap.size w10 w10.drew := (Below.refl _ _).drew
 rw [hwd] at bd0
 have Y7d := Y7.below bd0 Y7.lt
 have Y14d := Y14.below bd0 Y14.lt
 have HY14 := Lib.hid (Y14d.rowFar (k := q7) (by omega) #[.slice Ad nr cr, .int .i64 o, .slice A n c, .int .u32 nx, .int .i64 md, .int .i64 pf, .bool at_, .bool ha, .int .u32 gs, .int .u32 ga, .slice A1 n1 c1, .slice A2 n2 c2, .slice An nn cn])
 have HWD := Lib.hid hwd
 clear hwd
 refine wp_region_held_drew (S := (fun w' => Blk w' qb 77 #[.slice Ad nr cr, .int .i64 o, .slice A n c, .int .u32 nx, .int .i64 md, .int .i64 pf, .bool at_, .bool ha, .int .u32 gs, .int .u32 ga, .slice A1 n1 c1, .slice A2 n2 c2, .slice An nn cn])) (by kernel_rfl) ?_ (fun hHeld => ?_)
 ·rw [HWD.out]; exact Y14d
 rw [HWD.out]
 rw [HWD.out] at hHeld
 refine tkh 0 (h := ?_)
 try simp only [Act.put, q1, q2, q3, q4, q5, q6]
 refine wpAnyH_take (i := 1) (v := ?m7_v1) rfl (by kernel_rfl) (by kernel_rfl) (by kernel_rfl) (by intro _ _ _ h; exact h) (Or.inl ⟨by rfl, ?m7_hy1⟩) (by assumption) ?m7_rest1
 case m7_hy1 => (intro w hSw; (try dsimp only at hSw); have z0 := Blk.cell hSw 0; have z1 := Blk.cell hSw 1; have z2 := Blk.cell hSw 2; have z3 := Blk.cell hSw 3; have z4 := Blk.cell hSw 4; have z5 := Blk.cell hSw 5; have z6 := Blk.cell hSw 6; have z7 := Blk.cell hSw 7; have z8 := Blk.cell hSw 8; have z9 := Blk.cell hSw 9; have z10 := Blk.cell hSw 10; have z11 := Blk.cell hSw 11; have z12 := Blk.cell hSw 12; clear hSw; go_simp; try with_reducible rfl)
 try simp only [Act.put, q1, q2, q3, q4, q5, q6]
 refine tkh 2 (h := ?_)
 try simp only [Act.put, q1, q2, q3, q4, q5, q6]
 refine tkr 3 fun K hK => ?_
 go_simp
 go_wp2_with (fail)
 refine hK.out _ _ ?_ (fun hHeld => ?_)
 ·try dsimp only
  exact Y14d
 clear hK K
 refine tkr 4 fun K hK => ?_
 refine step_row rfl 77 (.tmp 7) (.tmp 101) rfl q7 #[.slice Ad nr cr, .int .i64 o, .slice A n c, .int .u32 nx, .int .i64 md, .int .i64 pf, .bool at_, .bool ha, .int .u32 gs, .int .u32 ga, .slice A1 n1 c1, .slice A2 n2 c2, .slice An nn cn] (by rfl) (by rfl) 77 #[.slice none 0 0, .int .i64 0, .slice none 0 0, .int .u32 0, .int .i64 0, .int .i64 0, .bool false, .bool false, .int .u32 0, .int .u32 0, .slice none 0 0, .slice none 0 0, .slice none 0 0] Y7d upd_info1 rfl (by kernel_rfl) ?_
 refine hK.out _ _ ?_ (fun hHeld => ?_)
 ·try dsimp only
  exact HY14.out
 clear hK K
 refine tkr 5 fun K hK => ?_
 go_simp
 go_wp2_with (fail)
 refine hK.out _ _ ?_ (fun hHeld => ?_)
 ·try dsimp only
  exact HY14.out
 clear hK K
 refine wpAnyH_done (by kernel_rfl) ?_ _
 refine HK20.out _ _ (wp_ret ?_)
 have gR := row_grown wd q7 #[.slice Ad nr cr, .int .i64 o, .slice A n c, .int .u32 nx, .int .i64 md, .int .i64 pf, .bool at_, .bool ha, .int .u32 gs, .int .u32 ga, .slice A1 n1 c1, .slice A2 n2 c2, .slice An nn cn]
 have bX := (btr bF bd0 bF.size).grown gR (btr bF bd0 bF.size).size (fun k hk => by injection hk with hk; omega)
 have sb2 : OB (wd.setRow q7 #[.slice Ad nr cr, .int .i64 o, .slice A n c, .int .u32 nx, .int .i64 md, .int .i64 pf, .bool at_, .bool ha, .int .u32 gs, .int .u32 ga, .slice A1 n1 c1, .slice A2 n2 c2, .slice An nn cn]) 5 w9.heap.size Ab nb cb (updB (pfxB (gone.take k)) [] []) := ⟨ob.1, own_keep ob.2 (fun k hk => (row_far wd q7 #[.slice Ad nr cr, .int .i64 o, .slice A n c, .int .u32 nx, .int .i64 md, .int .i64 pf, .bool at_, .bool ha, .int .u32 gs, .int .u32 ga, .slice A1 n1 c1, .slice A2 n2 c2, .slice An nn cn] (by have := (ob.2.lt k hk).1; have := Y7m; omega)).trans (bd0.block k (ob.2.lt k hk).2))⟩
 have hgd2 := (hgS.keep (S' := S) rPfx_ok (Kp.below bX hS)).drop_ (k := k) (c := cg) HKN.out hcap2.1
 rw [HAD.out, HNR.out] at hgd2
 have hmd2 := hmS.keep (S' := S) rPfx_ok (Kp.below bX hS)
 exact bodyPost_ret (fill_ret rfl _ _ q7 _ _ _ _ _ _ _ _ _ _ _ _ _ _ _ rfl rfl rfl (Y7d.row _)) rfl ⟨Ab, nb, cb, Ad, nr, cr, An, nn, cn, by rw [HZ.out]; rfl, sb2.bs, hgd2, hmd2, ⟨by have := HNR.out; have := HCR.out; have := hcap2; omega, hcap2.2⟩, bX⟩
set_option maxHeartbeats 8000000 in
set_option maxRecDepth 100000 in
theorem updFill_n0 (Ag : Option Addr) (ng cg : Nat) (gone : List Pfx) (o : Int) (A : Option Addr) (n c : Nat) (path : List Seg) (nx md pf : Int) (at_ ha : Bool) (gs ga : Int) (A1 : Option Addr) (n1 c1 : Nat) (comms : List Int) (A2 : Option Addr) (n2 c2 : Nat) (raws : List RawV) (An : Option Addr) (nn cn : Nat) (news : List Pfx) (room : Int) (w : World) (S : Nat → Prop) (hS : ∀ b, S b → b < w.heap.size) (hgS : DL rPfx 2 w S Ag ng gone) (hp : DL rSeg 2 w (Lo w) A n path) (hc : NF w (Lo w) A1 n1 comms) (hd : DL rRaw 3 w (Lo w) A2 n2 raws) (hmS : DL rPfx 2 w S An nn news) (hs : Hid (sumN path ≤ big32)) (hw : Hid (0 ≤ nx ∧ nx < 4294967296 ∧ 0 ≤ gs ∧ gs < 4294967296 ∧ 0 ≤ ga ∧ ga < 4294967296)) (hz : n ≤ 12 ∧ n2 ≤ 100000 ∧ ng ≤ 10000 ∧ nn ≤ 10000) (ht : LookTab w) (hcap : ng ≤ cg ∧ nn ≤ cn) (hroom : 900 ≤ room ∧ room ≤ 4000) (hk : updOk (⟨gone, ⟨o, path, nx, md, pf, at_, ha, gs, ga, comms, raws⟩, news⟩ : Upd) = true) (hg0 : gone.length = 0) (hn1 : news.length ≠ 0) (k : Nat) (hkk : fitsN news (room - 4 - ((attsB true (⟨o, path, nx, md, pf, at_, ha, gs, ga, comms, raws⟩ : At)).length : Nat)) = k) (hk0 : k = 0) :
  Calls Tryz.prog 43 #[.agg #[.slice Ag ng cg, .int .i64 o, .slice A n c, .int .u32 nx, .int .i64 md, .int .i64 pf, .bool at_, .bool ha, .int .u32 gs, .int .u32 ga, .slice A1 n1 c1, .slice A2 n2 c2, .slice An nn cn], .bool true, .int .i64 room] w (RetFE w 4) := by
 have hg : DL rPfx 2 w (Lo w) Ag ng gone := hgS.keep rPfx_ok (Kp.sub hS)
 have hm : DL rPfx 2 w (Lo w) An nn news := hmS.keep rPfx_ok (Kp.sub hS)
 have hgn0 : gone = [] := List.eq_nil_of_length_eq_zero hg0
 have hra : rightAt (⟨o, path, nx, md, pf, at_, ha, gs, ga, comms, raws⟩ : At) = true := by
  unfold updOk at hk
  simp only [Bool.and_eq_true, Bool.or_eq_true, decide_eq_true_eq] at hk
  exact hk.2.resolve_left hn1
 have hsb : saidB true (⟨gone, ⟨o, path, nx, md, pf, at_, ha, gs, ga, comms, raws⟩, news⟩ : Upd) = attsB true (⟨o, path, nx, md, pf, at_, ha, gs, ga, comms, raws⟩ : At) := if_neg hn1
 obtain ⟨sd, hsd⟩ : ∃ x, attsB true (⟨o, path, nx, md, pf, at_, ha, gs, ga, comms, raws⟩ : At) = x := ⟨_, rfl⟩
 have hsl : sd.length ≤ 5000 := by rw [← hsd]; exact attsB_len true hra
 have HPA := Lib.hid (show ∀ w', DL rPfx 2 w' (Lo w') Ag ng gone → DL rSeg 2 w' (Lo w') A n path → NF w' (Lo w') A1 n1 comms → DL rRaw 3 w' (Lo w') A2 n2 raws → DL rPfx 2 w' (Lo w') An nn news → LookTab w' → Calls Tryz.prog 81 #[.agg #[.slice Ag ng cg, .int .i64 o, .slice A n c, .int .u32 nx, .int .i64 md, .int .i64 pf, .bool at_, .bool ha, .int .u32 gs, .int .u32 ga, .slice A1 n1 c1, .slice A2 n2 c2, .slice An nn cn], .bool true] w' (RetParts w' (pfxB gone) (saidB true (⟨gone, ⟨o, path, nx, md, pf, at_, ha, gs, ga, comms, raws⟩, news⟩ : Upd)) (pfxB news) 0) from fun w' h1 h2 h3 h4 h5 h6 => updParts_yes Ag ng cg gone o A n c path nx md pf at_ ha gs ga A1 n1 c1 comms A2 n2 c2 raws An nn cn news w' h1 h2 h3 h4 h5 hs hw hz h6 hk)
 rw [hsb, hsd] at HPA
 rw [hsd] at hkk
 have hsw := hw
 have hss := hs
 have HK00 := Lib.hid hk0
 clear hk0
 clear hs hw
 obtain ⟨W, hW, hX, H7, b0⟩ := boxes2 w #[.slice Ag ng cg, .int .i64 o, .slice A n c, .int .u32 nx, .int .i64 md, .int .i64 pf, .bool at_, .bool ha, .int .u32 gs, .int .u32 ga, .slice A1 n1 c1, .slice A2 n2 c2, .slice An nn cn] #[.slice none 0 0, .int .i64 0, .slice none 0 0, .int .u32 0, .int .i64 0, .int .i64 0, .bool false, .bool false, .int .u32 0, .int .u32 0, .slice none 0 0, .slice none 0 0, .slice none 0 0] 77 77
 go_enter Tryz.func43, Tryz.ntmps43
 go_upto_region 1 with fail
 try rw [hW]
 obtain ⟨q3, hq3⟩ : ∃ q, w.heap.size = q := ⟨_, rfl⟩
 obtain ⟨q7, hq7⟩ : ∃ x, q3 + 1 = x := ⟨_, rfl⟩
 have hle3 : w.heap.size ≤ q3 := by omega
 have hlt37 : q3 < q7 := by omega
 try rw [hq3]
 try rw [hq7]
 rw [hq3] at hX H7
 rw [hq7] at H7
 clear hW hq3 hq7
 have c_hX0 := hX.cell 0
 have c_hX1 := hX.cell 1
 have c_hX2 := hX.cell 2
 have c_hX3 := hX.cell 3
 have c_hX4 := hX.cell 4
 have c_hX5 := hX.cell 5
 have c_hX6 := hX.cell 6
 have c_hX7 := hX.cell 7
 have c_hX8 := hX.cell 8
 have c_hX9 := hX.cell 9
 have c_hX10 := hX.cell 10
 have c_hX11 := hX.cell 11
 have c_hX12 := hX.cell 12
 go_wp2_with fail
 refine (HPA.out _ (hg.pfxB5 b0) (hp.segB5 b0) (hc.numB5 b0) (hd.rawB5 b0) (hm.pfxB5 b0) (ht.call b0)).mono ?_
 rintro _ w1 ⟨A3, n3, c3, A4, n4, c4, A5, n5, c5, rfl, s3, s4, s5, b1⟩
 clear c_hX0 c_hX1 c_hX2 c_hX3 c_hX4 c_hX5 c_hX6 c_hX7 c_hX8 c_hX9 c_hX10 c_hX11 c_hX12
 have b01 := btr b0 b1 b0.size
 have hX_1 := hX.below b1 hX.lt
 have H7_1 := H7.below b1 H7.lt
 have c_hX0 := hX_1.cell 0
 have c_hX1 := hX_1.cell 1
 have c_hX2 := hX_1.cell 2
 have c_hX3 := hX_1.cell 3
 have c_hX4 := hX_1.cell 4
 have c_hX5 := hX_1.cell 5
 have c_hX6 := hX_1.cell 6
 have c_hX7 := hX_1.cell 7
 have c_hX8 := hX_1.cell 8
 have c_hX9 := hX_1.cell 9
 have c_hX10 := hX_1.cell 10
 have c_hX11 := hX_1.cell 11
 have c_hX12 := hX_1.cell 12
 have hn4 : n4 = sd.length := s4.len
 have hr0 := hroom.1
 have hr1 := hroom.2
 have hmn : decide (room < 4077) = true := decide_eq_true (by omega)
 have hmx : decide (4077 < room) = false := decide_eq_false (by omega)
 have hm4 : room ≤ 4077 := by omega
 have hm0 : 0 ≤ room := by omega
 have HN4 := Lib.hid hn4
 have HSL := Lib.hid hsl
 have HRA := Lib.hid hra
 have HN1 := Lib.hid hn1
 have HSD := Lib.hid hsd
 have HSW := Lib.hid hsw.out
 have HSS := Lib.hid hss.out
 clear hn4 hsl hsb hra hn1 hsd hsw hss
 have X3 := hX_1
 have X7 := H7_1
 have bB := b01
 clear c_hX0 c_hX1 c_hX2 c_hX3 c_hX4 c_hX5 c_hX6 c_hX7 c_hX8 c_hX9 c_hX10 c_hX11 c_hX12
 go_upto_region 5 with fail
 rename_i hk5
 have HK5 := Lib.hid hk5
 clear hk5
 apply share
 case f =>
  intro HG0
  have HG := Lib.hid HG0
  clear HG0
  have bd0 : Below (w1).heap.size (w1) (w1).drew := (Below.refl _ _).drew
  obtain ⟨wd, hwd⟩ : ∃ x, (w1).drew = x := ⟨_, rfl⟩
  have hzd : wd.heap.size = (w1).heap.size := by rw [← hwd]; rfl
  rw [hwd] at bd0
  have X3d := X3.below bd0 X3.lt
  have X7d := X7.below bd0 X7.lt
  obtain ⟨W2, hW2, Y13, Y14, b2x⟩ := boxes2 wd #[.slice none 0 0, .int .i64 0, .slice none 0 0, .int .u32 0, .int .i64 0, .int .i64 0, .bool false, .bool false, .int .u32 0, .int .u32 0, .slice none 0 0, .slice none 0 0, .slice none 0 0] #[.slice none 0 0, .int .i64 0, .slice none 0 0, .int .u32 0, .int .i64 0, .int .i64 0, .bool false, .bool false, .int .u32 0, .int .u32 0, .slice none 0 0, .slice none 0 0, .slice none 0 0] 77 77
  obtain ⟨q13, hq13⟩ : ∃ x, (w1).heap.size = x := ⟨_, rfl⟩
  obtain ⟨q14, hq14⟩ : ∃ x, q13 + 1 = x := ⟨_, rfl⟩
  have X3e := X3d.below b2x X3d.lt
  have X7e := X7d.below b2x X7d.lt
  have hl7 := X7d.lt
  have b0x := btr bd0 b2x bd0.size
  rw [hzd, hq13] at Y13 Y14 hl7
  rw [hq14] at Y14
  have hl14 : q13 < q14 := by omega
  have hq13le : (w1).heap.size ≤ q13 := by omega
  have HW2 := Lib.hid hW2
  have HQ13 := Lib.hid hq13
  have HQ14 := Lib.hid hq14
  have HWD := Lib.hid hwd
  clear hW2 hq13 hq14 hwd
  refine wp_region_held_drew (S := (fun w' => Blk w' q3 77 #[.slice Ag ng cg, .int .i64 o, .slice A n c, .int .u32 nx, .int .i64 md, .int .i64 pf, .bool at_, .bool ha, .int .u32 gs, .int .u32 ga, .slice A1 n1 c1, .slice A2 n2 c2, .slice An nn cn])) (by kernel_rfl) ?_ (fun hHeld => ?_)
  ·rw [HWD.out]; exact X3d
  rw [HWD.out]
  rw [HWD.out] at hHeld
  refine wpAnyH_take (i := 0) (v := ?m9_v0) rfl (by kernel_rfl) (by kernel_rfl) (by kernel_rfl) (by intro _ _ _ h; exact h) (Or.inl ⟨by rfl, ?m9_hy0⟩) (by assumption) ?m9_rest0
  case m9_hy0 => (intro w hSw; (try dsimp only at hSw); have z0 := Blk.cell hSw 0; have z1 := Blk.cell hSw 1; have z2 := Blk.cell hSw 2; have z3 := Blk.cell hSw 3; have z4 := Blk.cell hSw 4; have z5 := Blk.cell hSw 5; have z6 := Blk.cell hSw 6; have z7 := Blk.cell hSw 7; have z8 := Blk.cell hSw 8; have z9 := Blk.cell hSw 9; have z10 := Blk.cell hSw 10; have z11 := Blk.cell hSw 11; have z12 := Blk.cell hSw 12; clear hSw; go_simp; try with_reducible rfl)
  try simp only [Act.put, q1, q2, q3, q4, q5, q6]
  refine wpAnyH_take (i := 1) (v := ?m10_v1) rfl (by kernel_rfl) (by kernel_rfl) (by kernel_rfl) (by intro _ _ _ h; exact h) (Or.inl ⟨by rfl, ?m10_hy1⟩) (by assumption) ?m10_rest1
  case m10_hy1 => (intro w hSw; (try dsimp only at hSw); have z0 := Blk.cell hSw 0; have z1 := Blk.cell hSw 1; have z2 := Blk.cell hSw 2; have z3 := Blk.cell hSw 3; have z4 := Blk.cell hSw 4; have z5 := Blk.cell hSw 5; have z6 := Blk.cell hSw 6; have z7 := Blk.cell hSw 7; have z8 := Blk.cell hSw 8; have z9 := Blk.cell hSw 9; have z10 := Blk.cell hSw 10; have z11 := Blk.cell hSw 11; have z12 := Blk.cell hSw 12; clear hSw; go_simp; try with_reducible rfl)
  try simp only [Act.put, q1, q2, q3, q4, q5, q6]
  refine wpAnyH_ready (rs := [2, 3]) (by kernel_rfl) (by simp) ?_
  refine AllReadyH.cons rfl (fun K hK => ?_) (AllReadyH.cons rfl (fun K hK => ?_) AllReadyH.nil)
  ·skip
   have HX3e := Lib.hid X3e
   have HX3g := Lib.hid (X3e.rowFar (k := q13) (by omega) #[.slice Ag ng cg, .int .i64 o, .slice A n c, .int .u32 nx, .int .i64 md, .int .i64 pf, .bool at_, .bool ha, .int .u32 gs, .int .u32 ga, .slice A1 n1 c1, .slice A2 n2 c2, .slice An nn cn])
   have HX3f := Lib.hid ((X3e.rowFar (k := q13) (by omega) #[.slice Ag ng cg, .int .i64 o, .slice A n c, .int .u32 nx, .int .i64 md, .int .i64 pf, .bool at_, .bool ha, .int .u32 gs, .int .u32 ga, .slice A1 n1 c1, .slice A2 n2 c2, .slice An nn cn]).rowFar (k := q14) (by omega) #[.slice Ag ng cg, .int .i64 o, .slice A n c, .int .u32 nx, .int .i64 md, .int .i64 pf, .bool at_, .bool ha, .int .u32 gs, .int .u32 ga, .slice A1 n1 c1, .slice A2 n2 c2, .slice An nn cn])
   have Ybb := Y14.rowFar (k := q13) (by omega) #[.slice Ag ng cg, .int .i64 o, .slice A n c, .int .u32 nx, .int .i64 md, .int .i64 pf, .bool at_, .bool ha, .int .u32 gs, .int .u32 ga, .slice A1 n1 c1, .slice A2 n2 c2, .slice An nn cn]
   go_simp
   go_wp2_with (fail)
   refine hK.out _ _ ?_ (fun hHeld => ?_)
   ·try dsimp only
    exact X3d.alloc _
   clear hK K
   refine tkr 3 fun K hK => ?_
   go_simp
   go_wp2_with (fail)
   refine hK.out _ _ ?_ (fun hHeld => ?_)
   ·try dsimp only
    rw [HW2.out]; exact HX3e.out
   clear hK K
   rw [HW2.out]
   try rw [HQ13.out]
   try rw [HQ14.out]
   refine tkr 4 fun K hK => ?_
   refine step_row rfl 77 (.tmp 13) (.tmp 33) rfl q13 #[.slice Ag ng cg, .int .i64 o, .slice A n c, .int .u32 nx, .int .i64 md, .int .i64 pf, .bool at_, .bool ha, .int .u32 gs, .int .u32 ga, .slice A1 n1 c1, .slice A2 n2 c2, .slice An nn cn] (by rfl) (by rfl) 77 #[.slice none 0 0, .int .i64 0, .slice none 0 0, .int .u32 0, .int .i64 0, .int .i64 0, .bool false, .bool false, .int .u32 0, .int .u32 0, .slice none 0 0, .slice none 0 0, .slice none 0 0] Y13 upd_info1 rfl (by kernel_rfl) ?_
   refine hK.out _ _ ?_ (fun hHeld => ?_)
   ·try dsimp only
    exact HX3g.out
   clear hK K
   refine tkr 5 fun K hK => ?_
   refine step_row rfl 77 (.tmp 14) (.tmp 34) rfl q14 #[.slice Ag ng cg, .int .i64 o, .slice A n c, .int .u32 nx, .int .i64 md, .int .i64 pf, .bool at_, .bool ha, .int .u32 gs, .int .u32 ga, .slice A1 n1 c1, .slice A2 n2 c2, .slice An nn cn] (by rfl) (by rfl) 77 #[.slice none 0 0, .int .i64 0, .slice none 0 0, .int .u32 0, .int .i64 0, .int .i64 0, .bool false, .bool false, .int .u32 0, .int .u32 0, .slice none 0 0, .slice none 0 0, .slice none 0 0] Ybb upd_info1 rfl (by kernel_rfl) ?_
   refine hK.out _ _ ?_ (fun hHeld => ?_)
   ·try dsimp only
    exact HX3f.out
   clear hK K
   refine wpAnyH_done (by kernel_rfl) ?_ _
   have g1 := row_grown W2 q13 #[.slice Ag ng cg, .int .i64 o, .slice A n c, .int .u32 nx, .int .i64 md, .int .i64 pf, .bool at_, .bool ha, .int .u32 gs, .int .u32 ga, .slice A1 n1 c1, .slice A2 n2 c2, .slice An nn cn]
   have g2 := row_grown (W2.setRow q13 #[.slice Ag ng cg, .int .i64 o, .slice A n c, .int .u32 nx, .int .i64 md, .int .i64 pf, .bool at_, .bool ha, .int .u32 gs, .int .u32 ga, .slice A1 n1 c1, .slice A2 n2 c2, .slice An nn cn]) q14 #[.slice Ag ng cg, .int .i64 o, .slice A n c, .int .u32 nx, .int .i64 md, .int .i64 pf, .bool at_, .bool ha, .int .u32 gs, .int .u32 ga, .slice A1 n1 c1, .slice A2 n2 c2, .slice An nn cn]
   have HH := Lib.hid (show Pair5 (w1) ((W2.setRow q13 #[.slice Ag ng cg, .int .i64 o, .slice A n c, .int .u32 nx, .int .i64 md, .int .i64 pf, .bool at_, .bool ha, .int .u32 gs, .int .u32 ga, .slice A1 n1 c1, .slice A2 n2 c2, .slice An nn cn]).setRow q14 #[.slice Ag ng cg, .int .i64 o, .slice A n c, .int .u32 nx, .int .i64 md, .int .i64 pf, .bool at_, .bool ha, .int .u32 gs, .int .u32 ga, .slice A1 n1 c1, .slice A2 n2 c2, .slice An nn cn]) #[.slice Ag ng cg, .int .i64 o, .slice A n c, .int .u32 nx, .int .i64 md, .int .i64 pf, .bool at_, .bool ha, .int .u32 gs, .int .u32 ga, .slice A1 n1 c1, .slice A2 n2 c2, .slice An nn cn] #[.slice none 0 0, .int .i64 0, .slice none 0 0, .int .u32 0, .int .i64 0, .int .i64 0, .bool false, .bool false, .int .u32 0, .int .u32 0, .slice none 0 0, .slice none 0 0, .slice none 0 0] q3 q7 q13 q14 from
    ⟨(b0x.grown g1 b0x.size (fun k hk => by injection hk with hk; omega)).grown g2 (by rw [row_size]; exact b0x.size) (fun k hk => by injection hk with hk; omega), HX3f.out, (X7e.rowFar (by omega) _).rowFar (by omega) _, (Y13.row _).rowFar (by omega) _, (Y14.rowFar (by omega) _).row _, by omega, by omega, by omega⟩)
   obtain ⟨w5, hw5⟩ : ∃ x, ((W2.setRow q13 #[.slice Ag ng cg, .int .i64 o, .slice A n c, .int .u32 nx, .int .i64 md, .int .i64 pf, .bool at_, .bool ha, .int .u32 gs, .int .u32 ga, .slice A1 n1 c1, .slice A2 n2 c2, .slice An nn cn]).setRow q14 #[.slice Ag ng cg, .int .i64 o, .slice A n c, .int .u32 nx, .int .i64 md, .int .i64 pf, .bool at_, .bool ha, .int .u32 gs, .int .u32 ga, .slice A1 n1 c1, .slice A2 n2 c2, .slice An nn cn]) = x := ⟨_, rfl⟩
   rw [hw5] at HH
   rw [hw5]
   obtain ⟨qa, hqa⟩ : ∃ x, q13 = x := ⟨_, rfl⟩
   obtain ⟨qb, hqb⟩ : ∃ x, q14 = x := ⟨_, rfl⟩
   rw [hqa, hqb] at HH
   rw [hqa, hqb]
   clear hw5 hqa hqb
   revert qa qb w5 HH
   exact HG.out
  ·skip
   have HX3e := Lib.hid X3e
   have HX3g := Lib.hid (X3e.rowFar (k := q14) (by omega) #[.slice Ag ng cg, .int .i64 o, .slice A n c, .int .u32 nx, .int .i64 md, .int .i64 pf, .bool at_, .bool ha, .int .u32 gs, .int .u32 ga, .slice A1 n1 c1, .slice A2 n2 c2, .slice An nn cn])
   have HX3f := Lib.hid ((X3e.rowFar (k := q14) (by omega) #[.slice Ag ng cg, .int .i64 o, .slice A n c, .int .u32 nx, .int .i64 md, .int .i64 pf, .bool at_, .bool ha, .int .u32 gs, .int .u32 ga, .slice A1 n1 c1, .slice A2 n2 c2, .slice An nn cn]).rowFar (k := q13) (by omega) #[.slice Ag ng cg, .int .i64 o, .slice A n c, .int .u32 nx, .int .i64 md, .int .i64 pf, .bool at_, .bool ha, .int .u32 gs, .int .u32 ga, .slice A1 n1 c1, .slice A2 n2 c2, .slice An nn cn])
   have Ybb := Y13.rowFar (k := q14) (by omega) #[.slice Ag ng cg, .int .i64 o, .slice A n c, .int .u32 nx, .int .i64 md, .int .i64 pf, .bool at_, .bool ha, .int .u32 gs, .int .u32 ga, .slice A1 n1 c1, .slice A2 n2 c2, .slice An nn cn]
   go_simp
   go_wp2_with (fail)
   refine hK.out _ _ ?_ (fun hHeld => ?_)
   ·try dsimp only
    exact X3d.alloc _
   clear hK K
   refine tkr 2 fun K hK => ?_
   go_simp
   go_wp2_with (fail)
   refine hK.out _ _ ?_ (fun hHeld => ?_)
   ·try dsimp only
    rw [HW2.out]; exact HX3e.out
   clear hK K
   rw [HW2.out]
   try rw [HQ13.out]
   try rw [HQ14.out]
   refine tkr 4 fun K hK => ?_
   refine step_row rfl 77 (.tmp 13) (.tmp 33) rfl q14 #[.slice Ag ng cg, .int .i64 o, .slice A n c, .int .u32 nx, .int .i64 md, .int .i64 pf, .bool at_, .bool ha, .int .u32 gs, .int .u32 ga, .slice A1 n1 c1, .slice A2 n2 c2, .slice An nn cn] (by rfl) (by rfl) 77 #[.slice none 0 0, .int .i64 0, .slice none 0 0, .int .u32 0, .int .i64 0, .int .i64 0, .bool false, .bool false, .int .u32 0, .int .u32 0, .slice none 0 0, .slice none 0 0, .slice none 0 0] Y14 upd_info1 rfl (by kernel_rfl) ?_
   refine hK.out _ _ ?_ (fun hHeld => ?_)
   ·try dsimp only
    exact HX3g.out
   clear hK K
   refine tkr 5 fun K hK => ?_
   refine step_row rfl 77 (.tmp 14) (.tmp 34) rfl q13 #[.slice Ag ng cg, .int .i64 o, .slice A n c, .int .u32 nx, .int .i64 md, .int .i64 pf, .bool at_, .bool ha, .int .u32 gs, .int .u32 ga, .slice A1 n1 c1, .slice A2 n2 c2, .slice An nn cn] (by rfl) (by rfl) 77 #[.slice none 0 0, .int .i64 0, .slice none 0 0, .int .u32 0, .int .i64 0, .int .i64 0, .bool false, .bool false, .int .u32 0, .int .u32 0, .slice none 0 0, .slice none 0 0, .slice none 0 0] Ybb upd_info1 rfl (by kernel_rfl) ?_
   refine hK.out _ _ ?_ (fun hHeld => ?_)
   ·try dsimp only
    exact HX3f.out
   clear hK K
   refine wpAnyH_done (by kernel_rfl) ?_ _
   have g1 := row_grown W2 q14 #[.slice Ag ng cg, .int .i64 o, .slice A n c, .int .u32 nx, .int .i64 md, .int .i64 pf, .bool at_, .bool ha, .int .u32 gs, .int .u32 ga, .slice A1 n1 c1, .slice A2 n2 c2, .slice An nn cn]
   have g2 := row_grown (W2.setRow q14 #[.slice Ag ng cg, .int .i64 o, .slice A n c, .int .u32 nx, .int .i64 md, .int .i64 pf, .bool at_, .bool ha, .int .u32 gs, .int .u32 ga, .slice A1 n1 c1, .slice A2 n2 c2, .slice An nn cn]) q13 #[.slice Ag ng cg, .int .i64 o, .slice A n c, .int .u32 nx, .int .i64 md, .int .i64 pf, .bool at_, .bool ha, .int .u32 gs, .int .u32 ga, .slice A1 n1 c1, .slice A2 n2 c2, .slice An nn cn]
   have HH := Lib.hid (show Pair5 (w1) ((W2.setRow q14 #[.slice Ag ng cg, .int .i64 o, .slice A n c, .int .u32 nx, .int .i64 md, .int .i64 pf, .bool at_, .bool ha, .int .u32 gs, .int .u32 ga, .slice A1 n1 c1, .slice A2 n2 c2, .slice An nn cn]).setRow q13 #[.slice Ag ng cg, .int .i64 o, .slice A n c, .int .u32 nx, .int .i64 md, .int .i64 pf, .bool at_, .bool ha, .int .u32 gs, .int .u32 ga, .slice A1 n1 c1, .slice A2 n2 c2, .slice An nn cn]) #[.slice Ag ng cg, .int .i64 o, .slice A n c, .int .u32 nx, .int .i64 md, .int .i64 pf, .bool at_, .bool ha, .int .u32 gs, .int .u32 ga, .slice A1 n1 c1, .slice A2 n2 c2, .slice An nn cn] #[.slice none 0 0, .int .i64 0, .slice none 0 0, .int .u32 0, .int .i64 0, .int .i64 0, .bool false, .bool false, .int .u32 0, .int .u32 0, .slice none 0 0, .slice none 0 0, .slice none 0 0] q3 q7 q14 q13 from
    ⟨(b0x.grown g1 b0x.size (fun k hk => by injection hk with hk; omega)).grown g2 (by rw [row_size]; exact b0x.size) (fun k hk => by injection hk with hk; omega), HX3f.out, (X7e.rowFar (by omega) _).rowFar (by omega) _, (Y14.row _).rowFar (by omega) _, (Y13.rowFar (by omega) _).row _, by omega, by omega, by omega⟩)
   obtain ⟨w5, hw5⟩ : ∃ x, ((W2.setRow q14 #[.slice Ag ng cg, .int .i64 o, .slice A n c, .int .u32 nx, .int .i64 md, .int .i64 pf, .bool at_, .bool ha, .int .u32 gs, .int .u32 ga, .slice A1 n1 c1, .slice A2 n2 c2, .slice An nn cn]).setRow q13 #[.slice Ag ng cg, .int .i64 o, .slice A n c, .int .u32 nx, .int .i64 md, .int .i64 pf, .bool at_, .bool ha, .int .u32 gs, .int .u32 ga, .slice A1 n1 c1, .slice A2 n2 c2, .slice An nn cn]) = x := ⟨_, rfl⟩
   rw [hw5] at HH
   rw [hw5]
   obtain ⟨qa, hqa⟩ : ∃ x, q14 = x := ⟨_, rfl⟩
   obtain ⟨qb, hqb⟩ : ∃ x, q13 = x := ⟨_, rfl⟩
   rw [hqa, hqb] at HH
   rw [hqa, hqb]
   clear hw5 hqa hqb
   revert qa qb w5 HH
   exact HG.out
 intro w5 qa qb HH
 refine HK5.out _ _ ?_
 obtain ⟨b5, R3, R7, R13, R14, hqa, hqb, hab⟩ := HH.out
 have b05 := btr b01 b5 b01.size
 have h7a : q7 < qa := by have := X7.lt; omega
 have h7b : q7 < qb := by have := X7.lt; omega
 have hwa : w.heap.size ≤ qa := by omega
 have hwb : w.heap.size ≤ qb := by omega
 clear HH HK5 X3 X7
 have t0 : decide (0 < ng) = false := decide_eq_false (by have := hg.len; omega)
 have t1 : decide (0 < nn) = true := decide_eq_true (by have := hm.len; have := HN1.out; omega)
 have wr4 : IntKind.i64.wrap (room - 4) = room - 4 := IntWalk.i64_in _ ⟨by omega, by omega⟩
 have wr5 : IntKind.i64.wrap (room - 4 - (n4 : Int)) = room - 4 - (n4 : Int) := IntWalk.i64_in _ ⟨by have := HN4.out; have := HSL.out; omega, by omega⟩
 have hok : news.all okQ = true := by
  unfold updOk at hk
  simp only [Bool.and_eq_true] at hk
  exact hk.1.2
 have hkl := fitsN_le news (room - 4 - (sd.length : Nat))
 rw [hkk] at hkl
 have hkn : k ≤ nn := by have := hm.len; omega
 have hkc : k ≤ cn := by omega
 have HFT := Lib.hid (show ∀ w', DL rPfx 2 w' (Lo w') An nn news → Calls Tryz.prog 99 #[.slice An nn cn, .int .i64 (room - 4 - (n4 : Int))] w' (fun en w'' => en = .returned (.int .i64 (k : Nat)) ∧ Below w'.heap.size w' w'') from fun w' h1 => by
  have h2 := updFits An nn cn news (room - 4 - (n4 : Int)) w' h1 hok hz.2.2.2 ⟨by have := HN4.out; have := HSL.out; omega, by omega⟩
  rw [HN4.out, hkk] at h2
  rw [HN4.out]
  exact h2)
 have HKKK := Lib.hid hkk
 have HOK := Lib.hid hok
 have HKN := Lib.hid hkn
 have HKC := Lib.hid hkc
 have HGN := Lib.hid hm.len
 have hng1 : nn ≤ 10000 := hz.2.2.2
 have hcap2 := hcap
 have hzz := Lib.hid hz
 have HG0 := Lib.hid hgn0
 have hng0 := Lib.hid (show ng = 0 by have := hg.len; omega)
 clear hkk hok hkn hkc hkl hg0 hk hmn hmx hm4 hm0 hr0 hr1 hcap hz hgn0
 have hroom := Lib.hid hroom
 have c_R30 := R3.cell 0
 have c_R312 := R3.cell 12
 go_wp2_with fail
 refine (HFT.out _ (hm.pfxB5 b05)).mono ?_
 rintro _ w6 ⟨rfl, b6⟩
 clear c_R30 c_R312
 have b06 := btr b05 b6 b05.size
 have R3_6 := R3.below b6 R3.lt
 have R7_6 := R7.below b6 R7.lt
 have R13_6 := R13.below b6 R13.lt
 have R14_6 := R14.below b6 R14.lt
 have c_R30 := R3_6.cell 0
 have c_R312 := R3_6.cell 12
 have hki : (k : Int) ≤ cn := by have := HKC.out; omega
 have hki2 : (k : Int) ≤ nn := by have := HKN.out; omega
 have c_R1312 := R13_6.cell 12
 have f_R1312 := R13_6.frozen 12
 go_upto_region 14 with fail
 obtain ⟨w7, hw7⟩ : ∃ Wz_, w6.setCell ⟨qa, 12, none⟩ (.slice An k cn)= Wz_ := ⟨_, rfl⟩
 have R3_7 := R3_6.far (p := ⟨qa, 12, none⟩) (by show _ ≠ qa; omega) (.slice An k cn)
 have R7_7 := R7_6.far (p := ⟨qa, 12, none⟩) (by show _ ≠ qa; omega) (.slice An k cn)
 have R13_7 := R13_6.set_ 12 (.slice An k cn)
 simp only [List.setIfInBounds_toArray, List.set_cons_succ, List.set_cons_zero] at R13_7
 have R14_7 := R14_6.far (p := ⟨qa, 12, none⟩) (by show _ ≠ qa; omega) (.slice An k cn)
 have b07 := b06.setCell (p := ⟨qa, 12, none⟩) (by show _ ≤ qa; omega) (.slice An k cn)
 have z_7 : w6.heap.size ≤ w7.heap.size := by rw [← hw7]; simp [World.setCell]
 rw [hw7] at R3_7 R7_7 R13_7 R14_7 b07
 rw [hw7]
 clear hw7
 clear c_R30 c_R312 c_R1312 f_R1312
 clear R3_6
 clear R7_6
 clear R13_6
 clear R14_6
 have c_R30 := R3_7.cell 0
 have c_R312 := R3_7.cell 12
 have c_R1312 := R13_7.cell 12
 have f_R1312 := R13_7.frozen 12
 clear c_R30 c_R312
 have c_R312 := R3_7.cell 12
 have c_R1412 := R14_7.cell 12
 have f_R1412 := R14_7.frozen 12
 go_upto_region 15 with fail
 obtain ⟨Ad, hAd⟩ : ∃ x, (if cn = k then An else Option.map (fun x => x.add (k * 2)) An) = x := ⟨_, rfl⟩
 rw [hAd]
 have HAD := Lib.hid hAd
 obtain ⟨nr, hnr⟩ : ∃ x, nn - k = x := ⟨_, rfl⟩
 obtain ⟨cr, hcr⟩ : ∃ x, cn - k = x := ⟨_, rfl⟩
 rw [hnr, hcr]
 have HNR := Lib.hid hnr
 have HCR := Lib.hid hcr
 clear hAd hnr hcr
 obtain ⟨w8, hw8⟩ : ∃ Wz_, w7.setCell ⟨qb, 12, none⟩ (.slice Ad nr cr)= Wz_ := ⟨_, rfl⟩
 have R3_8 := R3_7.far (p := ⟨qb, 12, none⟩) (by show _ ≠ qb; omega) (.slice Ad nr cr)
 have R7_8 := R7_7.far (p := ⟨qb, 12, none⟩) (by show _ ≠ qb; omega) (.slice Ad nr cr)
 have R13_8 := R13_7.far (p := ⟨qb, 12, none⟩) (by show _ ≠ qb; omega) (.slice Ad nr cr)
 have R14_8 := R14_7.set_ 12 (.slice Ad nr cr)
 simp only [List.setIfInBounds_toArray, List.set_cons_succ, List.set_cons_zero] at R14_8
 have b08 := b07.setCell (p := ⟨qb, 12, none⟩) (by show _ ≤ qb; omega) (.slice Ad nr cr)
 have z_8 : w7.heap.size ≤ w8.heap.size := by rw [← hw8]; simp [World.setCell]
 rw [hw8] at R3_8 R7_8 R13_8 R14_8 b08
 rw [hw8]
 clear hw8
 clear c_R312 c_R1312 f_R1312 c_R1412 f_R1412
 clear R3_7
 clear R7_7
 clear R13_7
 clear R14_7
 have c_R312 := R3_8.cell 12
 have c_R1312 := R13_8.cell 12
 have f_R1312 := R13_8.frozen 12
 have c_R1412 := R14_8.cell 12
 have f_R1412 := R14_8.frozen 12
 have wk : IntKind.i64.wrap ((ng : Int) + (k : Int)) = (ng : Int) + (k : Int) := IntWalk.i64_in _ ⟨by omega, by have := HKN.out; have := hng1; have := hng0.out; omega⟩
 have k1 : ((ng : Int) + (k : Int) == 0) = true := by have := hng0.out; have := HK00.out; simp; omega
 have k2 : (ng + k == 0) = true := by have := hng0.out; have := HK00.out; simp; omega
 clear c_R1312 f_R1312
 have c_R130 := R13_8.cell 0
 have c_R1312 := R13_8.cell 12
 clear c_R1412 f_R1412
 clear c_R312
 have R7z := R7_8
 have kc0 := R7z.cell 0
 have kf0 := R7z.frozen 0
 have kc1 := R7z.cell 1
 have kf1 := R7z.frozen 1
 have kc2 := R7z.cell 2
 have kf2 := R7z.frozen 2
 have kc3 := R7z.cell 3
 have kf3 := R7z.frozen 3
 have kc4 := R7z.cell 4
 have kf4 := R7z.frozen 4
 have kc5 := R7z.cell 5
 have kf5 := R7z.frozen 5
 have kc6 := R7z.cell 6
 have kf6 := R7z.frozen 6
 have kc7 := R7z.cell 7
 have kf7 := R7z.frozen 7
 have kc8 := R7z.cell 8
 have kf8 := R7z.frozen 8
 have kc9 := R7z.cell 9
 have kf9 := R7z.frozen 9
 have kc10 := R7z.cell 10
 have kf10 := R7z.frozen 10
 have kc11 := R7z.cell 11
 have kf11 := R7z.frozen 11
 have kc12 := R7z.cell 12
 have kf12 := R7z.frozen 12
 have gu := upd_grown (q := q7) (x0 := .slice none 0 0) (x1 := .int .i64 0) (x2 := .slice none 0 0) (x3 := .int .u32 0) (x4 := .int .i64 0) (x5 := .int .i64 0) (x6 := .bool false) (x7 := .bool false) (x8 := .int .u32 0) (x9 := .int .u32 0) (x10 := .slice none 0 0) (x11 := .slice none 0 0) (x12 := .slice none 0 0) w8
 have bE := (b08).grown gu (b08).size (fun k hk => by injection hk with hk; omega)
 go_upto_region 16 with fail
 rename_i hk3
 have HKK := Lib.hid hk3
 clear hk3
 go_wp2_with fail
 refine HKK.out _ _ (wp_ret ?_)
 exact bodyPost_ret (fill_ret rfl _ _ q7 _ _ _ _ _ _ _ _ _ _ _ _ _ _ _ rfl rfl rfl (upd_store R7z)) rfl ⟨rfl, bE⟩
set_option maxHeartbeats 8000000 in
set_option maxRecDepth 100000 in
theorem updFill_n (Ag : Option Addr) (ng cg : Nat) (gone : List Pfx) (o : Int) (A : Option Addr) (n c : Nat) (path : List Seg) (nx md pf : Int) (at_ ha : Bool) (gs ga : Int) (A1 : Option Addr) (n1 c1 : Nat) (comms : List Int) (A2 : Option Addr) (n2 c2 : Nat) (raws : List RawV) (An : Option Addr) (nn cn : Nat) (news : List Pfx) (room : Int) (w : World) (S : Nat → Prop) (hS : ∀ b, S b → b < w.heap.size) (hgS : DL rPfx 2 w S Ag ng gone) (hp : DL rSeg 2 w (Lo w) A n path) (hc : NF w (Lo w) A1 n1 comms) (hd : DL rRaw 3 w (Lo w) A2 n2 raws) (hmS : DL rPfx 2 w S An nn news) (hs : Hid (sumN path ≤ big32)) (hw : Hid (0 ≤ nx ∧ nx < 4294967296 ∧ 0 ≤ gs ∧ gs < 4294967296 ∧ 0 ≤ ga ∧ ga < 4294967296)) (hz : n ≤ 12 ∧ n2 ≤ 100000 ∧ ng ≤ 10000 ∧ nn ≤ 10000) (ht : LookTab w) (hcap : ng ≤ cg ∧ nn ≤ cn) (hroom : 900 ≤ room ∧ room ≤ 4000) (hk : updOk (⟨gone, ⟨o, path, nx, md, pf, at_, ha, gs, ga, comms, raws⟩, news⟩ : Upd) = true) (hg0 : gone.length = 0) (hn1 : news.length ≠ 0) (k : Nat) (hkk : fitsN news (room - 4 - ((attsB true (⟨o, path, nx, md, pf, at_, ha, gs, ga, comms, raws⟩ : At)).length : Nat)) = k) (hk0 : 0 < k) :
  Calls Tryz.prog 43 #[.agg #[.slice Ag ng cg, .int .i64 o, .slice A n c, .int .u32 nx, .int .i64 md, .int .i64 pf, .bool at_, .bool ha, .int .u32 gs, .int .u32 ga, .slice A1 n1 c1, .slice A2 n2 c2, .slice An nn cn], .bool true, .int .i64 room] w (RetFO w S (updB [] (attsB true (⟨o, path, nx, md, pf, at_, ha, gs, ga, comms, raws⟩ : At)) (pfxB (news.take k))) (decide ((news.drop k).length = 0)) gone (news.drop k) o A n c nx md pf at_ ha gs ga A1 n1 c1 A2 n2 c2) := by
 have hg : DL rPfx 2 w (Lo w) Ag ng gone := hgS.keep rPfx_ok (Kp.sub hS)
 have hm : DL rPfx 2 w (Lo w) An nn news := hmS.keep rPfx_ok (Kp.sub hS)
 have hgn0 : gone = [] := List.eq_nil_of_length_eq_zero hg0
 have hra : rightAt (⟨o, path, nx, md, pf, at_, ha, gs, ga, comms, raws⟩ : At) = true := by
  unfold updOk at hk
  simp only [Bool.and_eq_true, Bool.or_eq_true, decide_eq_true_eq] at hk
  exact hk.2.resolve_left hn1
 have hsb : saidB true (⟨gone, ⟨o, path, nx, md, pf, at_, ha, gs, ga, comms, raws⟩, news⟩ : Upd) = attsB true (⟨o, path, nx, md, pf, at_, ha, gs, ga, comms, raws⟩ : At) := if_neg hn1
 obtain ⟨sd, hsd⟩ : ∃ x, attsB true (⟨o, path, nx, md, pf, at_, ha, gs, ga, comms, raws⟩ : At) = x := ⟨_, rfl⟩
 have hsl : sd.length ≤ 5000 := by rw [← hsd]; exact attsB_len true hra
 have HPA := Lib.hid (show ∀ w', DL rPfx 2 w' (Lo w') Ag ng gone → DL rSeg 2 w' (Lo w') A n path → NF w' (Lo w') A1 n1 comms → DL rRaw 3 w' (Lo w') A2 n2 raws → DL rPfx 2 w' (Lo w') An nn news → LookTab w' → Calls Tryz.prog 81 #[.agg #[.slice Ag ng cg, .int .i64 o, .slice A n c, .int .u32 nx, .int .i64 md, .int .i64 pf, .bool at_, .bool ha, .int .u32 gs, .int .u32 ga, .slice A1 n1 c1, .slice A2 n2 c2, .slice An nn cn], .bool true] w' (RetParts w' (pfxB gone) (saidB true (⟨gone, ⟨o, path, nx, md, pf, at_, ha, gs, ga, comms, raws⟩, news⟩ : Upd)) (pfxB news) 0) from fun w' h1 h2 h3 h4 h5 h6 => updParts_yes Ag ng cg gone o A n c path nx md pf at_ ha gs ga A1 n1 c1 comms A2 n2 c2 raws An nn cn news w' h1 h2 h3 h4 h5 hs hw hz h6 hk)
 rw [hsb, hsd] at HPA
 rw [hsd] at hkk ⊢
 have hsw := hw
 have hss := hs
 have HK00 := Lib.hid hk0
 clear hk0
 clear hs hw
 obtain ⟨W, hW, hX, H7, b0⟩ := boxes2 w #[.slice Ag ng cg, .int .i64 o, .slice A n c, .int .u32 nx, .int .i64 md, .int .i64 pf, .bool at_, .bool ha, .int .u32 gs, .int .u32 ga, .slice A1 n1 c1, .slice A2 n2 c2, .slice An nn cn] #[.slice none 0 0, .int .i64 0, .slice none 0 0, .int .u32 0, .int .i64 0, .int .i64 0, .bool false, .bool false, .int .u32 0, .int .u32 0, .slice none 0 0, .slice none 0 0, .slice none 0 0] 77 77
 go_enter Tryz.func43, Tryz.ntmps43
 go_upto_region 1 with fail
 try rw [hW]
 obtain ⟨q3, hq3⟩ : ∃ q, w.heap.size = q := ⟨_, rfl⟩
 obtain ⟨q7, hq7⟩ : ∃ x, q3 + 1 = x := ⟨_, rfl⟩
 have hle3 : w.heap.size ≤ q3 := by omega
 have hlt37 : q3 < q7 := by omega
 try rw [hq3]
 try rw [hq7]
 rw [hq3] at hX H7
 rw [hq7] at H7
 clear hW hq3 hq7
 have c_hX0 := hX.cell 0
 have c_hX1 := hX.cell 1
 have c_hX2 := hX.cell 2
 have c_hX3 := hX.cell 3
 have c_hX4 := hX.cell 4
 have c_hX5 := hX.cell 5
 have c_hX6 := hX.cell 6
 have c_hX7 := hX.cell 7
 have c_hX8 := hX.cell 8
 have c_hX9 := hX.cell 9
 have c_hX10 := hX.cell 10
 have c_hX11 := hX.cell 11
 have c_hX12 := hX.cell 12
 go_wp2_with fail
 refine (HPA.out _ (hg.pfxB5 b0) (hp.segB5 b0) (hc.numB5 b0) (hd.rawB5 b0) (hm.pfxB5 b0) (ht.call b0)).mono ?_
 rintro _ w1 ⟨A3, n3, c3, A4, n4, c4, A5, n5, c5, rfl, s3, s4, s5, b1⟩
 clear c_hX0 c_hX1 c_hX2 c_hX3 c_hX4 c_hX5 c_hX6 c_hX7 c_hX8 c_hX9 c_hX10 c_hX11 c_hX12
 have b01 := btr b0 b1 b0.size
 have hX_1 := hX.below b1 hX.lt
 have H7_1 := H7.below b1 H7.lt
 have c_hX0 := hX_1.cell 0
 have c_hX1 := hX_1.cell 1
 have c_hX2 := hX_1.cell 2
 have c_hX3 := hX_1.cell 3
 have c_hX4 := hX_1.cell 4
 have c_hX5 := hX_1.cell 5
 have c_hX6 := hX_1.cell 6
 have c_hX7 := hX_1.cell 7
 have c_hX8 := hX_1.cell 8
 have c_hX9 := hX_1.cell 9
 have c_hX10 := hX_1.cell 10
 have c_hX11 := hX_1.cell 11
 have c_hX12 := hX_1.cell 12
 have hn4 : n4 = sd.length := s4.len
 have hr0 := hroom.1
 have hr1 := hroom.2
 have hmn : decide (room < 4077) = true := decide_eq_true (by omega)
 have hmx : decide (4077 < room) = false := decide_eq_false (by omega)
 have hm4 : room ≤ 4077 := by omega
 have hm0 : 0 ≤ room := by omega
 have HN4 := Lib.hid hn4
 have HSL := Lib.hid hsl
 have HRA := Lib.hid hra
 have HN1 := Lib.hid hn1
 have HSD := Lib.hid hsd
 have HSW := Lib.hid hsw.out
 have HSS := Lib.hid hss.out
 clear hn4 hsl hsb hra hn1 hsd hsw hss
 have X3 := hX_1
 have X7 := H7_1
 have bB := b01
 clear c_hX0 c_hX1 c_hX2 c_hX3 c_hX4 c_hX5 c_hX6 c_hX7 c_hX8 c_hX9 c_hX10 c_hX11 c_hX12
 go_upto_region 5 with fail
 rename_i hk5
 have HK5 := Lib.hid hk5
 clear hk5
 apply share
 case f =>
  intro HG0
  have HG := Lib.hid HG0
  clear HG0
  have bd0 : Below (w1).heap.size (w1) (w1).drew := (Below.refl _ _).drew
  obtain ⟨wd, hwd⟩ : ∃ x, (w1).drew = x := ⟨_, rfl⟩
  have hzd : wd.heap.size = (w1).heap.size := by rw [← hwd]; rfl
  rw [hwd] at bd0
  have X3d := X3.below bd0 X3.lt
  have X7d := X7.below bd0 X7.lt
  obtain ⟨W2, hW2, Y13, Y14, b2x⟩ := boxes2 wd #[.slice none 0 0, .int .i64 0, .slice none 0 0, .int .u32 0, .int .i64 0, .int .i64 0, .bool false, .bool false, .int .u32 0, .int .u32 0, .slice none 0 0, .slice none 0 0, .slice none 0 0] #[.slice none 0 0, .int .i64 0, .slice none 0 0, .int .u32 0, .int .i64 0, .int .i64 0, .bool false, .bool false, .int .u32 0, .int .u32 0, .slice none 0 0, .slice none 0 0, .slice none 0 0] 77 77
  obtain ⟨q13, hq13⟩ : ∃ x, (w1).heap.size = x := ⟨_, rfl⟩
  obtain ⟨q14, hq14⟩ : ∃ x, q13 + 1 = x := ⟨_, rfl⟩
  have X3e := X3d.below b2x X3d.lt
  have X7e := X7d.below b2x X7d.lt
  have hl7 := X7d.lt
  have b0x := btr bd0 b2x bd0.size
  rw [hzd, hq13] at Y13 Y14 hl7
  rw [hq14] at Y14
  have hl14 : q13 < q14 := by omega
  have hq13le : (w1).heap.size ≤ q13 := by omega
  have HW2 := Lib.hid hW2
  have HQ13 := Lib.hid hq13
  have HQ14 := Lib.hid hq14
  have HWD := Lib.hid hwd
  clear hW2 hq13 hq14 hwd
  refine wp_region_held_drew (S := (fun w' => Blk w' q3 77 #[.slice Ag ng cg, .int .i64 o, .slice A n c, .int .u32 nx, .int .i64 md, .int .i64 pf, .bool at_, .bool ha, .int .u32 gs, .int .u32 ga, .slice A1 n1 c1, .slice A2 n2 c2, .slice An nn cn])) (by kernel_rfl) ?_ (fun hHeld => ?_)
  ·rw [HWD.out]; exact X3d
  rw [HWD.out]
  rw [HWD.out] at hHeld
  refine wpAnyH_take (i := 0) (v := ?m11_v0) rfl (by kernel_rfl) (by kernel_rfl) (by kernel_rfl) (by intro _ _ _ h; exact h) (Or.inl ⟨by rfl, ?m11_hy0⟩) (by assumption) ?m11_rest0
  case m11_hy0 => (intro w hSw; (try dsimp only at hSw); have z0 := Blk.cell hSw 0; have z1 := Blk.cell hSw 1; have z2 := Blk.cell hSw 2; have z3 := Blk.cell hSw 3; have z4 := Blk.cell hSw 4; have z5 := Blk.cell hSw 5; have z6 := Blk.cell hSw 6; have z7 := Blk.cell hSw 7; have z8 := Blk.cell hSw 8; have z9 := Blk.cell hSw 9; have z10 := Blk.cell hSw 10; have z11 := Blk.cell hSw 11; have z12 := Blk.cell hSw 12; clear hSw; go_simp; try with_reducible rfl)
  try simp only [Act.put, q1, q2, q3, q4, q5, q6]
  refine wpAnyH_take (i := 1) (v := ?m12_v1) rfl (by kernel_rfl) (by kernel_rfl) (by kernel_rfl) (by intro _ _ _ h; exact h) (Or.inl ⟨by rfl, ?m12_hy1⟩) (by assumption) ?m12_rest1
  case m12_hy1 => (intro w hSw; (try dsimp only at hSw); have z0 := Blk.cell hSw 0; have z1 := Blk.cell hSw 1; have z2 := Blk.cell hSw 2; have z3 := Blk.cell hSw 3; have z4 := Blk.cell hSw 4; have z5 := Blk.cell hSw 5; have z6 := Blk.cell hSw 6; have z7 := Blk.cell hSw 7; have z8 := Blk.cell hSw 8; have z9 := Blk.cell hSw 9; have z10 := Blk.cell hSw 10; have z11 := Blk.cell hSw 11; have z12 := Blk.cell hSw 12; clear hSw; go_simp; try with_reducible rfl)
  try simp only [Act.put, q1, q2, q3, q4, q5, q6]
  refine wpAnyH_ready (rs := [2, 3]) (by kernel_rfl) (by simp) ?_
  refine AllReadyH.cons rfl (fun K hK => ?_) (AllReadyH.cons rfl (fun K hK => ?_) AllReadyH.nil)
  ·skip
   have HX3e := Lib.hid X3e
   have HX3g := Lib.hid (X3e.rowFar (k := q13) (by omega) #[.slice Ag ng cg, .int .i64 o, .slice A n c, .int .u32 nx, .int .i64 md, .int .i64 pf, .bool at_, .bool ha, .int .u32 gs, .int .u32 ga, .slice A1 n1 c1, .slice A2 n2 c2, .slice An nn cn])
   have HX3f := Lib.hid ((X3e.rowFar (k := q13) (by omega) #[.slice Ag ng cg, .int .i64 o, .slice A n c, .int .u32 nx, .int .i64 md, .int .i64 pf, .bool at_, .bool ha, .int .u32 gs, .int .u32 ga, .slice A1 n1 c1, .slice A2 n2 c2, .slice An nn cn]).rowFar (k := q14) (by omega) #[.slice Ag ng cg, .int .i64 o, .slice A n c, .int .u32 nx, .int .i64 md, .int .i64 pf, .bool at_, .bool ha, .int .u32 gs, .int .u32 ga, .slice A1 n1 c1, .slice A2 n2 c2, .slice An nn cn])
   have Ybb := Y14.rowFar (k := q13) (by omega) #[.slice Ag ng cg, .int .i64 o, .slice A n c, .int .u32 nx, .int .i64 md, .int .i64 pf, .bool at_, .bool ha, .int .u32 gs, .int .u32 ga, .slice A1 n1 c1, .slice A2 n2 c2, .slice An nn cn]
   go_simp
   go_wp2_with (fail)
   refine hK.out _ _ ?_ (fun hHeld => ?_)
   ·try dsimp only
    exact X3d.alloc _
   clear hK K
   refine tkr 3 fun K hK => ?_
   go_simp
   go_wp2_with (fail)
   refine hK.out _ _ ?_ (fun hHeld => ?_)
   ·try dsimp only
    rw [HW2.out]; exact HX3e.out
   clear hK K
   rw [HW2.out]
   try rw [HQ13.out]
   try rw [HQ14.out]
   refine tkr 4 fun K hK => ?_
   refine step_row rfl 77 (.tmp 13) (.tmp 33) rfl q13 #[.slice Ag ng cg, .int .i64 o, .slice A n c, .int .u32 nx, .int .i64 md, .int .i64 pf, .bool at_, .bool ha, .int .u32 gs, .int .u32 ga, .slice A1 n1 c1, .slice A2 n2 c2, .slice An nn cn] (by rfl) (by rfl) 77 #[.slice none 0 0, .int .i64 0, .slice none 0 0, .int .u32 0, .int .i64 0, .int .i64 0, .bool false, .bool false, .int .u32 0, .int .u32 0, .slice none 0 0, .slice none 0 0, .slice none 0 0] Y13 upd_info1 rfl (by kernel_rfl) ?_
   refine hK.out _ _ ?_ (fun hHeld => ?_)
   ·try dsimp only
    exact HX3g.out
   clear hK K
   refine tkr 5 fun K hK => ?_
   refine step_row rfl 77 (.tmp 14) (.tmp 34) rfl q14 #[.slice Ag ng cg, .int .i64 o, .slice A n c, .int .u32 nx, .int .i64 md, .int .i64 pf, .bool at_, .bool ha, .int .u32 gs, .int .u32 ga, .slice A1 n1 c1, .slice A2 n2 c2, .slice An nn cn] (by rfl) (by rfl) 77 #[.slice none 0 0, .int .i64 0, .slice none 0 0, .int .u32 0, .int .i64 0, .int .i64 0, .bool false, .bool false, .int .u32 0, .int .u32 0, .slice none 0 0, .slice none 0 0, .slice none 0 0] Ybb upd_info1 rfl (by kernel_rfl) ?_
   refine hK.out _ _ ?_ (fun hHeld => ?_)
   ·try dsimp only
    exact HX3f.out
   clear hK K
   refine wpAnyH_done (by kernel_rfl) ?_ _
   have g1 := row_grown W2 q13 #[.slice Ag ng cg, .int .i64 o, .slice A n c, .int .u32 nx, .int .i64 md, .int .i64 pf, .bool at_, .bool ha, .int .u32 gs, .int .u32 ga, .slice A1 n1 c1, .slice A2 n2 c2, .slice An nn cn]
   have g2 := row_grown (W2.setRow q13 #[.slice Ag ng cg, .int .i64 o, .slice A n c, .int .u32 nx, .int .i64 md, .int .i64 pf, .bool at_, .bool ha, .int .u32 gs, .int .u32 ga, .slice A1 n1 c1, .slice A2 n2 c2, .slice An nn cn]) q14 #[.slice Ag ng cg, .int .i64 o, .slice A n c, .int .u32 nx, .int .i64 md, .int .i64 pf, .bool at_, .bool ha, .int .u32 gs, .int .u32 ga, .slice A1 n1 c1, .slice A2 n2 c2, .slice An nn cn]
   have HH := Lib.hid (show Pair5 (w1) ((W2.setRow q13 #[.slice Ag ng cg, .int .i64 o, .slice A n c, .int .u32 nx, .int .i64 md, .int .i64 pf, .bool at_, .bool ha, .int .u32 gs, .int .u32 ga, .slice A1 n1 c1, .slice A2 n2 c2, .slice An nn cn]).setRow q14 #[.slice Ag ng cg, .int .i64 o, .slice A n c, .int .u32 nx, .int .i64 md, .int .i64 pf, .bool at_, .bool ha, .int .u32 gs, .int .u32 ga, .slice A1 n1 c1, .slice A2 n2 c2, .slice An nn cn]) #[.slice Ag ng cg, .int .i64 o, .slice A n c, .int .u32 nx, .int .i64 md, .int .i64 pf, .bool at_, .bool ha, .int .u32 gs, .int .u32 ga, .slice A1 n1 c1, .slice A2 n2 c2, .slice An nn cn] #[.slice none 0 0, .int .i64 0, .slice none 0 0, .int .u32 0, .int .i64 0, .int .i64 0, .bool false, .bool false, .int .u32 0, .int .u32 0, .slice none 0 0, .slice none 0 0, .slice none 0 0] q3 q7 q13 q14 from
    ⟨(b0x.grown g1 b0x.size (fun k hk => by injection hk with hk; omega)).grown g2 (by rw [row_size]; exact b0x.size) (fun k hk => by injection hk with hk; omega), HX3f.out, (X7e.rowFar (by omega) _).rowFar (by omega) _, (Y13.row _).rowFar (by omega) _, (Y14.rowFar (by omega) _).row _, by omega, by omega, by omega⟩)
   obtain ⟨w5, hw5⟩ : ∃ x, ((W2.setRow q13 #[.slice Ag ng cg, .int .i64 o, .slice A n c, .int .u32 nx, .int .i64 md, .int .i64 pf, .bool at_, .bool ha, .int .u32 gs, .int .u32 ga, .slice A1 n1 c1, .slice A2 n2 c2, .slice An nn cn]).setRow q14 #[.slice Ag ng cg, .int .i64 o, .slice A n c, .int .u32 nx, .int .i64 md, .int .i64 pf, .bool at_, .bool ha, .int .u32 gs, .int .u32 ga, .slice A1 n1 c1, .slice A2 n2 c2, .slice An nn cn]) = x := ⟨_, rfl⟩
   rw [hw5] at HH
   rw [hw5]
   obtain ⟨qa, hqa⟩ : ∃ x, q13 = x := ⟨_, rfl⟩
   obtain ⟨qb, hqb⟩ : ∃ x, q14 = x := ⟨_, rfl⟩
   rw [hqa, hqb] at HH
   rw [hqa, hqb]
   clear hw5 hqa hqb
   revert qa qb w5 HH
   exact HG.out
  ·skip
   have HX3e := Lib.hid X3e
   have HX3g := Lib.hid (X3e.rowFar (k := q14) (by omega) #[.slice Ag ng cg, .int .i64 o, .slice A n c, .int .u32 nx, .int .i64 md, .int .i64 pf, .bool at_, .bool ha, .int .u32 gs, .int .u32 ga, .slice A1 n1 c1, .slice A2 n2 c2, .slice An nn cn])
   have HX3f := Lib.hid ((X3e.rowFar (k := q14) (by omega) #[.slice Ag ng cg, .int .i64 o, .slice A n c, .int .u32 nx, .int .i64 md, .int .i64 pf, .bool at_, .bool ha, .int .u32 gs, .int .u32 ga, .slice A1 n1 c1, .slice A2 n2 c2, .slice An nn cn]).rowFar (k := q13) (by omega) #[.slice Ag ng cg, .int .i64 o, .slice A n c, .int .u32 nx, .int .i64 md, .int .i64 pf, .bool at_, .bool ha, .int .u32 gs, .int .u32 ga, .slice A1 n1 c1, .slice A2 n2 c2, .slice An nn cn])
   have Ybb := Y13.rowFar (k := q14) (by omega) #[.slice Ag ng cg, .int .i64 o, .slice A n c, .int .u32 nx, .int .i64 md, .int .i64 pf, .bool at_, .bool ha, .int .u32 gs, .int .u32 ga, .slice A1 n1 c1, .slice A2 n2 c2, .slice An nn cn]
   go_simp
   go_wp2_with (fail)
   refine hK.out _ _ ?_ (fun hHeld => ?_)
   ·try dsimp only
    exact X3d.alloc _
   clear hK K
   refine tkr 2 fun K hK => ?_
   go_simp
   go_wp2_with (fail)
   refine hK.out _ _ ?_ (fun hHeld => ?_)
   ·try dsimp only
    rw [HW2.out]; exact HX3e.out
   clear hK K
   rw [HW2.out]
   try rw [HQ13.out]
   try rw [HQ14.out]
   refine tkr 4 fun K hK => ?_
   refine step_row rfl 77 (.tmp 13) (.tmp 33) rfl q14 #[.slice Ag ng cg, .int .i64 o, .slice A n c, .int .u32 nx, .int .i64 md, .int .i64 pf, .bool at_, .bool ha, .int .u32 gs, .int .u32 ga, .slice A1 n1 c1, .slice A2 n2 c2, .slice An nn cn] (by rfl) (by rfl) 77 #[.slice none 0 0, .int .i64 0, .slice none 0 0, .int .u32 0, .int .i64 0, .int .i64 0, .bool false, .bool false, .int .u32 0, .int .u32 0, .slice none 0 0, .slice none 0 0, .slice none 0 0] Y14 upd_info1 rfl (by kernel_rfl) ?_
   refine hK.out _ _ ?_ (fun hHeld => ?_)
   ·try dsimp only
    exact HX3g.out
   clear hK K
   refine tkr 5 fun K hK => ?_
   refine step_row rfl 77 (.tmp 14) (.tmp 34) rfl q13 #[.slice Ag ng cg, .int .i64 o, .slice A n c, .int .u32 nx, .int .i64 md, .int .i64 pf, .bool at_, .bool ha, .int .u32 gs, .int .u32 ga, .slice A1 n1 c1, .slice A2 n2 c2, .slice An nn cn] (by rfl) (by rfl) 77 #[.slice none 0 0, .int .i64 0, .slice none 0 0, .int .u32 0, .int .i64 0, .int .i64 0, .bool false, .bool false, .int .u32 0, .int .u32 0, .slice none 0 0, .slice none 0 0, .slice none 0 0] Ybb upd_info1 rfl (by kernel_rfl) ?_
   refine hK.out _ _ ?_ (fun hHeld => ?_)
   ·try dsimp only
    exact HX3f.out
   clear hK K
   refine wpAnyH_done (by kernel_rfl) ?_ _
   have g1 := row_grown W2 q14 #[.slice Ag ng cg, .int .i64 o, .slice A n c, .int .u32 nx, .int .i64 md, .int .i64 pf, .bool at_, .bool ha, .int .u32 gs, .int .u32 ga, .slice A1 n1 c1, .slice A2 n2 c2, .slice An nn cn]
   have g2 := row_grown (W2.setRow q14 #[.slice Ag ng cg, .int .i64 o, .slice A n c, .int .u32 nx, .int .i64 md, .int .i64 pf, .bool at_, .bool ha, .int .u32 gs, .int .u32 ga, .slice A1 n1 c1, .slice A2 n2 c2, .slice An nn cn]) q13 #[.slice Ag ng cg, .int .i64 o, .slice A n c, .int .u32 nx, .int .i64 md, .int .i64 pf, .bool at_, .bool ha, .int .u32 gs, .int .u32 ga, .slice A1 n1 c1, .slice A2 n2 c2, .slice An nn cn]
   have HH := Lib.hid (show Pair5 (w1) ((W2.setRow q14 #[.slice Ag ng cg, .int .i64 o, .slice A n c, .int .u32 nx, .int .i64 md, .int .i64 pf, .bool at_, .bool ha, .int .u32 gs, .int .u32 ga, .slice A1 n1 c1, .slice A2 n2 c2, .slice An nn cn]).setRow q13 #[.slice Ag ng cg, .int .i64 o, .slice A n c, .int .u32 nx, .int .i64 md, .int .i64 pf, .bool at_, .bool ha, .int .u32 gs, .int .u32 ga, .slice A1 n1 c1, .slice A2 n2 c2, .slice An nn cn]) #[.slice Ag ng cg, .int .i64 o, .slice A n c, .int .u32 nx, .int .i64 md, .int .i64 pf, .bool at_, .bool ha, .int .u32 gs, .int .u32 ga, .slice A1 n1 c1, .slice A2 n2 c2, .slice An nn cn] #[.slice none 0 0, .int .i64 0, .slice none 0 0, .int .u32 0, .int .i64 0, .int .i64 0, .bool false, .bool false, .int .u32 0, .int .u32 0, .slice none 0 0, .slice none 0 0, .slice none 0 0] q3 q7 q14 q13 from
    ⟨(b0x.grown g1 b0x.size (fun k hk => by injection hk with hk; omega)).grown g2 (by rw [row_size]; exact b0x.size) (fun k hk => by injection hk with hk; omega), HX3f.out, (X7e.rowFar (by omega) _).rowFar (by omega) _, (Y14.row _).rowFar (by omega) _, (Y13.rowFar (by omega) _).row _, by omega, by omega, by omega⟩)
   obtain ⟨w5, hw5⟩ : ∃ x, ((W2.setRow q14 #[.slice Ag ng cg, .int .i64 o, .slice A n c, .int .u32 nx, .int .i64 md, .int .i64 pf, .bool at_, .bool ha, .int .u32 gs, .int .u32 ga, .slice A1 n1 c1, .slice A2 n2 c2, .slice An nn cn]).setRow q13 #[.slice Ag ng cg, .int .i64 o, .slice A n c, .int .u32 nx, .int .i64 md, .int .i64 pf, .bool at_, .bool ha, .int .u32 gs, .int .u32 ga, .slice A1 n1 c1, .slice A2 n2 c2, .slice An nn cn]) = x := ⟨_, rfl⟩
   rw [hw5] at HH
   rw [hw5]
   obtain ⟨qa, hqa⟩ : ∃ x, q14 = x := ⟨_, rfl⟩
   obtain ⟨qb, hqb⟩ : ∃ x, q13 = x := ⟨_, rfl⟩
   rw [hqa, hqb] at HH
   rw [hqa, hqb]
   clear hw5 hqa hqb
   revert qa qb w5 HH
   exact HG.out
 intro w5 qa qb HH
 refine HK5.out _ _ ?_
 obtain ⟨b5, R3, R7, R13, R14, hqa, hqb, hab⟩ := HH.out
 have b05 := btr b01 b5 b01.size
 have h7a : q7 < qa := by have := X7.lt; omega
 have h7b : q7 < qb := by have := X7.lt; omega
 have hwa : w.heap.size ≤ qa := by omega
 have hwb : w.heap.size ≤ qb := by omega
 clear HH HK5 X3 X7
 have t0 : decide (0 < ng) = false := decide_eq_false (by have := hg.len; omega)
 have t1 : decide (0 < nn) = true := decide_eq_true (by have := hm.len; have := HN1.out; omega)
 have wr4 : IntKind.i64.wrap (room - 4) = room - 4 := IntWalk.i64_in _ ⟨by omega, by omega⟩
 have wr5 : IntKind.i64.wrap (room - 4 - (n4 : Int)) = room - 4 - (n4 : Int) := IntWalk.i64_in _ ⟨by have := HN4.out; have := HSL.out; omega, by omega⟩
 have hok : news.all okQ = true := by
  unfold updOk at hk
  simp only [Bool.and_eq_true] at hk
  exact hk.1.2
 have hkl := fitsN_le news (room - 4 - (sd.length : Nat))
 rw [hkk] at hkl
 have hkn : k ≤ nn := by have := hm.len; omega
 have hkc : k ≤ cn := by omega
 have HFT := Lib.hid (show ∀ w', DL rPfx 2 w' (Lo w') An nn news → Calls Tryz.prog 99 #[.slice An nn cn, .int .i64 (room - 4 - (n4 : Int))] w' (fun en w'' => en = .returned (.int .i64 (k : Nat)) ∧ Below w'.heap.size w' w'') from fun w' h1 => by
  have h2 := updFits An nn cn news (room - 4 - (n4 : Int)) w' h1 hok hz.2.2.2 ⟨by have := HN4.out; have := HSL.out; omega, by omega⟩
  rw [HN4.out, hkk] at h2
  rw [HN4.out]
  exact h2)
 have HKKK := Lib.hid hkk
 have HOK := Lib.hid hok
 have HKN := Lib.hid hkn
 have HKC := Lib.hid hkc
 have HGN := Lib.hid hm.len
 have hng1 : nn ≤ 10000 := hz.2.2.2
 have hcap2 := hcap
 have hzz := Lib.hid hz
 have HG0 := Lib.hid hgn0
 have hng0 := Lib.hid (show ng = 0 by have := hg.len; omega)
 clear hkk hok hkn hkc hkl hg0 hk hmn hmx hm4 hm0 hr0 hr1 hcap hz hgn0
 have hroom := Lib.hid hroom
 have c_R30 := R3.cell 0
 have c_R312 := R3.cell 12
 go_wp2_with fail
 refine (HFT.out _ (hm.pfxB5 b05)).mono ?_
 rintro _ w6 ⟨rfl, b6⟩
 clear c_R30 c_R312
 have b06 := btr b05 b6 b05.size
 have R3_6 := R3.below b6 R3.lt
 have R7_6 := R7.below b6 R7.lt
 have R13_6 := R13.below b6 R13.lt
 have R14_6 := R14.below b6 R14.lt
 have c_R30 := R3_6.cell 0
 have c_R312 := R3_6.cell 12
 have hki : (k : Int) ≤ cn := by have := HKC.out; omega
 have hki2 : (k : Int) ≤ nn := by have := HKN.out; omega
 have c_R1312 := R13_6.cell 12
 have f_R1312 := R13_6.frozen 12
 go_upto_region 14 with fail
 obtain ⟨w7, hw7⟩ : ∃ Wz_, w6.setCell ⟨qa, 12, none⟩ (.slice An k cn)= Wz_ := ⟨_, rfl⟩
 have R3_7 := R3_6.far (p := ⟨qa, 12, none⟩) (by show _ ≠ qa; omega) (.slice An k cn)
 have R7_7 := R7_6.far (p := ⟨qa, 12, none⟩) (by show _ ≠ qa; omega) (.slice An k cn)
 have R13_7 := R13_6.set_ 12 (.slice An k cn)
 simp only [List.setIfInBounds_toArray, List.set_cons_succ, List.set_cons_zero] at R13_7
 have R14_7 := R14_6.far (p := ⟨qa, 12, none⟩) (by show _ ≠ qa; omega) (.slice An k cn)
 have b07 := b06.setCell (p := ⟨qa, 12, none⟩) (by show _ ≤ qa; omega) (.slice An k cn)
 have z_7 : w6.heap.size ≤ w7.heap.size := by rw [← hw7]; simp [World.setCell]
 rw [hw7] at R3_7 R7_7 R13_7 R14_7 b07
 rw [hw7]
 clear hw7
 clear c_R30 c_R312 c_R1312 f_R1312
 clear R3_6
 clear R7_6
 clear R13_6
 clear R14_6
 have c_R30 := R3_7.cell 0
 have c_R312 := R3_7.cell 12
 have c_R1312 := R13_7.cell 12
 have f_R1312 := R13_7.frozen 12
 clear c_R30 c_R312
 have c_R312 := R3_7.cell 12
 have c_R1412 := R14_7.cell 12
 have f_R1412 := R14_7.frozen 12
 go_upto_region 15 with fail
 obtain ⟨Ad, hAd⟩ : ∃ x, (if cn = k then An else Option.map (fun x => x.add (k * 2)) An) = x := ⟨_, rfl⟩
 rw [hAd]
 have HAD := Lib.hid hAd
 obtain ⟨nr, hnr⟩ : ∃ x, nn - k = x := ⟨_, rfl⟩
 obtain ⟨cr, hcr⟩ : ∃ x, cn - k = x := ⟨_, rfl⟩
 rw [hnr, hcr]
 have HNR := Lib.hid hnr
 have HCR := Lib.hid hcr
 clear hAd hnr hcr
 obtain ⟨w8, hw8⟩ : ∃ Wz_, w7.setCell ⟨qb, 12, none⟩ (.slice Ad nr cr)= Wz_ := ⟨_, rfl⟩
 have R3_8 := R3_7.far (p := ⟨qb, 12, none⟩) (by show _ ≠ qb; omega) (.slice Ad nr cr)
 have R7_8 := R7_7.far (p := ⟨qb, 12, none⟩) (by show _ ≠ qb; omega) (.slice Ad nr cr)
 have R13_8 := R13_7.far (p := ⟨qb, 12, none⟩) (by show _ ≠ qb; omega) (.slice Ad nr cr)
 have R14_8 := R14_7.set_ 12 (.slice Ad nr cr)
 simp only [List.setIfInBounds_toArray, List.set_cons_succ, List.set_cons_zero] at R14_8
 have b08 := b07.setCell (p := ⟨qb, 12, none⟩) (by show _ ≤ qb; omega) (.slice Ad nr cr)
 have z_8 : w7.heap.size ≤ w8.heap.size := by rw [← hw8]; simp [World.setCell]
 rw [hw8] at R3_8 R7_8 R13_8 R14_8 b08
 rw [hw8]
 clear hw8
 clear c_R312 c_R1312 f_R1312 c_R1412 f_R1412
 clear R3_7
 clear R7_7
 clear R13_7
 clear R14_7
 have c_R312 := R3_8.cell 12
 have c_R1312 := R13_8.cell 12
 have f_R1312 := R13_8.frozen 12
 have c_R1412 := R14_8.cell 12
 have f_R1412 := R14_8.frozen 12
 have wk : IntKind.i64.wrap ((ng : Int) + (k : Int)) = (ng : Int) + (k : Int) := IntWalk.i64_in _ ⟨by omega, by have := HKN.out; have := hng1; have := hng0.out; omega⟩
 have HK0 := HK00
 have HPU := Lib.hid (show ∀ w', DL rPfx 2 w' (Lo w') Ag ng gone → DL rSeg 2 w' (Lo w') A n path → NF w' (Lo w') A1 n1 comms → DL rRaw 3 w' (Lo w') A2 n2 raws → DL rPfx 2 w' (Lo w') An k (news.take k) → LookTab w' → Calls Tryz.prog 36 #[.agg #[.slice Ag ng cg, .int .i64 o, .slice A n c, .int .u32 nx, .int .i64 md, .int .i64 pf, .bool at_, .bool ha, .int .u32 gs, .int .u32 ga, .slice A1 n1 c1, .slice A2 n2 c2, .slice An k cn], .bool true] w' (RetPut w' (updB [] sd (pfxB (news.take k))) 0) from fun w' h1 h2 h3 h4 h5 h6 => by
  have h7 := updPut5 Ag ng cg gone o A n c path nx md pf at_ ha gs ga A1 n1 c1 comms A2 n2 c2 raws An k cn (news.take k) w' h1 h2 h3 h4 h5 (Lib.hid HSS.out) (Lib.hid HSW.out) ⟨hzz.out.1, hzz.out.2.1, hzz.out.2.2.1, by have := HKN.out; have := hng1; omega⟩ h6
  have h8 := fitsN_room news (room - 4 - (sd.length : Nat)) HOK.out (by rw [HKKK.out]; exact HK0.out)
  rw [HKKK.out] at h8
  have h9 := put_news (a := (⟨o, path, nx, md, pf, at_, ha, gs, ga, comms, raws⟩ : At)) HRA.out (okQ_take HOK.out k) (by have h1 := HGN.out; have h2 := HKN.out; have h3 := HK0.out; rw [List.length_take]; omega) (by rw [HSD.out]; have := hroom.out; omega)
  rw [HG0.out, h9, HSD.out] at h7
  exact h7)
 have k1 : ((ng : Int) + (k : Int) == 0) = false := by have := HK0.out; simp; omega
 have k2 : (ng + k == 0) = false := by have := HK0.out; simp; omega
 clear c_R312
 clear c_R1312 f_R1312
 have c_R130 := R13_8.cell 0
 have c_R131 := R13_8.cell 1
 have c_R132 := R13_8.cell 2
 have c_R133 := R13_8.cell 3
 have c_R134 := R13_8.cell 4
 have c_R135 := R13_8.cell 5
 have c_R136 := R13_8.cell 6
 have c_R137 := R13_8.cell 7
 have c_R138 := R13_8.cell 8
 have c_R139 := R13_8.cell 9
 have c_R1310 := R13_8.cell 10
 have c_R1311 := R13_8.cell 11
 have c_R1312 := R13_8.cell 12
 clear c_R1412 f_R1412
 have c_R1412 := R14_8.cell 12
 by_cases hn0 : nr = 0
 case pos =>
  have tn : ((nr : Int) == 0) = true := by simp [hn0]
  have tn2 : (nr == 0) = true := by simp [hn0]
  have HZ := Lib.hid (show decide ((news.drop k).length = 0) = true from decide_eq_true (by rw [List.length_drop]; have := HGN.out; have := HNR.out; omega))
  clear hn0
  clear c_R1412
  have c_R140 := R14_8.cell 0
  have f_R140 := R14_8.frozen 0
  have c_R141 := R14_8.cell 1
  have f_R141 := R14_8.frozen 1
  have c_R142 := R14_8.cell 2
  have f_R142 := R14_8.frozen 2
  have c_R143 := R14_8.cell 3
  have f_R143 := R14_8.frozen 3
  have c_R144 := R14_8.cell 4
  have f_R144 := R14_8.frozen 4
  have c_R145 := R14_8.cell 5
  have f_R145 := R14_8.frozen 5
  have c_R146 := R14_8.cell 6
  have f_R146 := R14_8.frozen 6
  have c_R147 := R14_8.cell 7
  have f_R147 := R14_8.frozen 7
  have c_R148 := R14_8.cell 8
  have f_R148 := R14_8.frozen 8
  have c_R149 := R14_8.cell 9
  have f_R149 := R14_8.frozen 9
  have c_R1410 := R14_8.cell 10
  have f_R1410 := R14_8.frozen 10
  have c_R1411 := R14_8.cell 11
  have f_R1411 := R14_8.frozen 11
  have c_R1412 := R14_8.cell 12
  have f_R1412 := R14_8.frozen 12
  go_upto_region 19 with fail
  have gA := att_in_grown (q := qb) (x0 := .int .i64 0) (x1 := .slice none 0 0) (x2 := .int .u32 0) (x3 := .int .i64 0) (x4 := .int .i64 0) (x5 := .bool false) (x6 := .bool false) (x7 := .int .u32 0) (x8 := .int .u32 0) (x9 := .slice none 0 0) (x10 := .slice none 0 0) w8
  have R14m := att_in (x0 := .int .i64 0) (x1 := .slice none 0 0) (x2 := .int .u32 0) (x3 := .int .i64 0) (x4 := .int .i64 0) (x5 := .bool false) (x6 := .bool false) (x7 := .int .u32 0) (x8 := .int .u32 0) (x9 := .slice none 0 0) (x10 := .slice none 0 0) R14_8
  have R13m := R13_8.grown gA (by intro e; injection e with e; omega)
  have R7m := R7_8.grown gA (by intro e; injection e with e; omega)
  have b_9 := (b08).grown gA (b08).size (fun k hk => by injection hk with hk; omega)
  obtain ⟨w9, h_9⟩ : ∃ X, (World.setCell (World.setCell (World.setCell (World.setCell (World.setCell (World.setCell (World.setCell (World.setCell (World.setCell (World.setCell (World.setCell w8 ⟨qb, 1, none⟩ (.int .i64 0)) ⟨qb, 2, none⟩ (.slice none 0 0)) ⟨qb, 3, none⟩ (.int .u32 0)) ⟨qb, 4, none⟩ (.int .i64 0)) ⟨qb, 5, none⟩ (.int .i64 0)) ⟨qb, 6, none⟩ (.bool false)) ⟨qb, 7, none⟩ (.bool false)) ⟨qb, 8, none⟩ (.int .u32 0)) ⟨qb, 9, none⟩ (.int .u32 0)) ⟨qb, 10, none⟩ (.slice none 0 0)) ⟨qb, 11, none⟩ (.slice none 0 0)) = X := ⟨_, rfl⟩
  rw [h_9] at R14m R13m R7m b_9
  rw [h_9]
  clear h_9 gA
  clear c_R130 c_R131 c_R132 c_R133 c_R134 c_R135 c_R136 c_R137 c_R138 c_R139 c_R1310 c_R1311 c_R1312
  clear c_R140 f_R140 c_R141 f_R141 c_R142 f_R142 c_R143 f_R143 c_R144 f_R144 c_R145 f_R145 c_R146 f_R146 c_R147 f_R147 c_R148 f_R148 c_R149 f_R149 c_R1410 f_R1410 c_R1411 f_R1411 c_R1412 f_R1412
  have c_R13m0 := R13m.cell 0
  have c_R13m1 := R13m.cell 1
  have c_R13m2 := R13m.cell 2
  have c_R13m3 := R13m.cell 3
  have c_R13m4 := R13m.cell 4
  have c_R13m5 := R13m.cell 5
  have c_R13m6 := R13m.cell 6
  have c_R13m7 := R13m.cell 7
  have c_R13m8 := R13m.cell 8
  have c_R13m9 := R13m.cell 9
  have c_R13m10 := R13m.cell 10
  have c_R13m11 := R13m.cell 11
  have c_R13m12 := R13m.cell 12
  have Y7m := R7m.lt
  have hgt := (hm.pfxB5 b_9).take_ (k := k) HKN.out
  go_wp2_with fail
  refine (HPU.out _ (hg.pfxB5 b_9) (hp.segB5 b_9) (hc.numB5 b_9) (hd.rawB5 b_9) hgt (ht.call b_9)).mono ?_
  rintro _ w10 ⟨Ab, nb, cb, rfl, ob, b10⟩
  clear c_R13m0 c_R13m1 c_R13m2 c_R13m3 c_R13m4 c_R13m5 c_R13m6 c_R13m7 c_R13m8 c_R13m9 c_R13m10 c_R13m11 c_R13m12
  have b010 := btr b_9 b10 b_9.size
  have R7m_10 := R7m.below b10 R7m.lt
  have R13m_10 := R13m.below b10 R13m.lt
  have R14m_10 := R14m.below b10 R14m.lt
  have c_R13m0 := R13m_10.cell 0
  have c_R13m1 := R13m_10.cell 1
  have c_R13m2 := R13m_10.cell 2
  have c_R13m3 := R13m_10.cell 3
  have c_R13m4 := R13m_10.cell 4
  have c_R13m5 := R13m_10.cell 5
  have c_R13m6 := R13m_10.cell 6
  have c_R13m7 := R13m_10.cell 7
  have c_R13m8 := R13m_10.cell 8
  have c_R13m9 := R13m_10.cell 9
  have c_R13m10 := R13m_10.cell 10
  have c_R13m11 := R13m_10.cell 11
  have c_R13m12 := R13m_10.cell 12
  clear c_R13m0 c_R13m1 c_R13m2 c_R13m3 c_R13m4 c_R13m5 c_R13m6 c_R13m7 c_R13m8 c_R13m9 c_R13m10 c_R13m11 c_R13m12
  have Y7 := R7m_10
  have Y14 := R14m_10
  have bF := b010
  go_upto_region 20 with fail
  rename_i hk20
  have HK20 := Lib.hid hk20
  clear hk20
  obtain ⟨wd, hwd⟩ : ∃ x, w10.drew = x := ⟨_, rfl⟩
  have bd0 : Below w10.heap.size w10 w10.drew := (Below.refl _ _).drew
  rw [hwd] at bd0
  have Y7d := Y7.below bd0 Y7.lt
  have Y14d := Y14.below bd0 Y14.lt
  have HY14 := Lib.hid (Y14d.rowFar (k := q7) (by omega) #[.slice Ag ng cg, .int .i64 0, .slice none 0 0, .int .u32 0, .int .i64 0, .int .i64 0, .bool false, .bool false, .int .u32 0, .int .u32 0, .slice none 0 0, .slice none 0 0, .slice Ad nr cr])
  have HWD := Lib.hid hwd
  clear hwd
  refine wp_region_held_drew (S := (fun w' => Blk w' qb 77 #[.slice Ag ng cg, .int .i64 0, .slice none 0 0, .int .u32 0, .int .i64 0, .int .i64 0, .bool false, .bool false, .int .u32 0, .int .u32 0, .slice none 0 0, .slice none 0 0, .slice Ad nr cr])) (by kernel_rfl) ?_ (fun hHeld => ?_)
  ·rw [HWD.out]; exact Y14d
  rw [HWD.out]
  rw [HWD.out] at hHeld
  refine tkh 0 (h := ?_)
  try simp only [Act.put, q1, q2, q3, q4, q5, q6]
  refine wpAnyH_take (i := 1) (v := ?m14_v1) rfl (by kernel_rfl) (by kernel_rfl) (by kernel_rfl) (by intro _ _ _ h; exact h) (Or.inl ⟨by rfl, ?m14_hy1⟩) (by assumption) ?m14_rest1
  case m14_hy1 => (intro w hSw; (try dsimp only at hSw); have z0 := Blk.cell hSw 0; have z1 := Blk.cell hSw 1; have z2 := Blk.cell hSw 2; have z3 := Blk.cell hSw 3; have z4 := Blk.cell hSw 4; have z5 := Blk.cell hSw 5; have z6 := Blk.cell hSw 6; have z7 := Blk.cell hSw 7; have z8 := Blk.cell hSw 8; have z9 := Blk.cell hSw 9; have z10 := Blk.cell hSw 10; have z11 := Blk.cell hSw 11; have z12 := Blk.cell hSw 12; clear hSw; go_simp; try with_reducible rfl)
  try simp only [Act.put, q1, q2, q3, q4, q5, q6]
  refine tkh 2 (h := ?_)
  try simp only [Act.put, q1, q2, q3, q4, q5, q6]
  refine tkr 3 fun K hK => ?_
  go_simp
  go_wp2_with (fail)
  refine hK.out _ _ ?_ (fun hHeld => ?_)
  ·try dsimp only
   exact Y14d
  clear hK K
  refine tkr 4 fun K hK => ?_
  refine step_row rfl 77 (.tmp 7) (.tmp 101) rfl q7 #[.slice Ag ng cg, .int .i64 0, .slice none 0 0, .int .u32 0, .int .i64 0, .int .i64 0, .bool false, .bool false, .int .u32 0, .int .u32 0, .slice none 0 0, .slice none 0 0, .slice Ad nr cr] (by rfl) (by rfl) 77 #[.slice none 0 0, .int .i64 0, .slice none 0 0, .int .u32 0, .int .i64 0, .int .i64 0, .bool false, .bool false, .int .u32 0, .int .u32 0, .slice none 0 0, .slice none 0 0, .slice none 0 0] Y7d upd_info1 rfl (by kernel_rfl) ?_
  refine hK.out _ _ ?_ (fun hHeld => ?_)
  ·try dsimp only
   exact HY14.out
  clear hK K
  refine tkr 5 fun K hK => ?_
  go_simp
  go_wp2_with (fail)
  refine hK.out _ _ ?_ (fun hHeld => ?_)
  ·try dsimp only
   exact HY14.out
  clear hK K
  refine wpAnyH_done (by kernel_rfl) ?_ _
  refine HK20.out _ _ (wp_ret ?_)
  have gR := row_grown wd q7 #[.slice Ag ng cg, .int .i64 0, .slice none 0 0, .int .u32 0, .int .i64 0, .int .i64 0, .bool false, .bool false, .int .u32 0, .int .u32 0, .slice none 0 0, .slice none 0 0, .slice Ad nr cr]
  have bX := (btr bF bd0 bF.size).grown gR (btr bF bd0 bF.size).size (fun k hk => by injection hk with hk; omega)
  have sb2 : OB (wd.setRow q7 #[.slice Ag ng cg, .int .i64 0, .slice none 0 0, .int .u32 0, .int .i64 0, .int .i64 0, .bool false, .bool false, .int .u32 0, .int .u32 0, .slice none 0 0, .slice none 0 0, .slice Ad nr cr]) 5 w9.heap.size Ab nb cb (updB [] sd (pfxB (news.take k))) := ⟨ob.1, own_keep ob.2 (fun k hk => (row_far wd q7 #[.slice Ag ng cg, .int .i64 0, .slice none 0 0, .int .u32 0, .int .i64 0, .int .i64 0, .bool false, .bool false, .int .u32 0, .int .u32 0, .slice none 0 0, .slice none 0 0, .slice Ad nr cr] (by have := (ob.2.lt k hk).1; have := Y7m; omega)).trans (bd0.block k (ob.2.lt k hk).2))⟩
  have hgd2 := hgS.keep (S' := S) rPfx_ok (Kp.below bX hS)
  have hmd2 := (hmS.keep (S' := S) rPfx_ok (Kp.below bX hS)).drop_ (k := k) (c := cn) HKN.out hcap2.2
  rw [HAD.out, HNR.out] at hmd2
  exact bodyPost_ret (fill_ret rfl _ _ q7 _ _ _ _ _ _ _ _ _ _ _ _ _ _ _ rfl rfl rfl (Y7d.row _)) rfl ⟨Ab, nb, cb, Ag, ng, cg, Ad, nr, cr, by rw [HZ.out]; rfl, sb2.bs, hgd2, hmd2, ⟨hcap2.1, by have := HNR.out; have := HCR.out; have := hcap2; omega⟩, bX⟩
 have tn : ((nr : Int) == 0) = false := by simp [hn0]
 have tn2 : (nr == 0) = false := by simp [hn0]
 have HZ := Lib.hid (show decide ((news.drop k).length = 0) = false from decide_eq_false (by rw [List.length_drop]; have := HGN.out; have := HNR.out; omega))
 clear hn0
 go_upto_region 19 with fail
 have R14m := R14_8
 have R13m := R13_8
 have R7m := R7_8
 have b_9 := b08
 obtain ⟨w9, h_9⟩ : ∃ X, w8 = X := ⟨_, rfl⟩
 rw [h_9] at R14m R13m R7m b_9
 rw [h_9]
 clear h_9
 clear c_R130 c_R131 c_R132 c_R133 c_R134 c_R135 c_R136 c_R137 c_R138 c_R139 c_R1310 c_R1311 c_R1312
 clear c_R1412
 have c_R13m0 := R13m.cell 0
 have c_R13m1 := R13m.cell 1
 have c_R13m2 := R13m.cell 2
 have c_R13m3 := R13m.cell 3
 have c_R13m4 := R13m.cell 4
 have c_R13m5 := R13m.cell 5
 have c_R13m6 := R13m.cell 6
 have c_R13m7 := R13m.cell 7
 have c_R13m8 := R13m.cell 8
 have c_R13m9 := R13m.cell 9
 have c_R13m10 := R13m.cell 10
 have c_R13m11 := R13m.cell 11
 have c_R13m12 := R13m.cell 12
 have Y7m := R7m.lt
 have hgt := (hm.pfxB5 b_9).take_ (k := k) HKN.out
 go_wp2_with fail
 refine (HPU.out _ (hg.pfxB5 b_9) (hp.segB5 b_9) (hc.numB5 b_9) (hd.rawB5 b_9) hgt (ht.call b_9)).mono ?_
 rintro _ w10 ⟨Ab, nb, cb, rfl, ob, b10⟩
 clear c_R13m0 c_R13m1 c_R13m2 c_R13m3 c_R13m4 c_R13m5 c_R13m6 c_R13m7 c_R13m8 c_R13m9 c_R13m10 c_R13m11 c_R13m12
 have b010 := btr b_9 b10 b_9.size
 have R7m_10 := R7m.below b10 R7m.lt
 have R13m_10 := R13m.below b10 R13m.lt
 have R14m_10 := R14m.below b10 R14m.lt
 have c_R13m0 := R13m_10.cell 0
 have c_R13m1 := R13m_10.cell 1
 have c_R13m2 := R13m_10.cell 2
 have c_R13m3 := R13m_10.cell 3
 have c_R13m4 := R13m_10.cell 4
 have c_R13m5 := R13m_10.cell 5
 have c_R13m6 := R13m_10.cell 6
 have c_R13m7 := R13m_10.cell 7
 have c_R13m8 := R13m_10.cell 8
 have c_R13m9 := R13m_10.cell 9
 have c_R13m10 := R13m_10.cell 10
 have c_R13m11 := R13m_10.cell 11
 have c_R13m12 := R13m_10.cell 12
 clear c_R13m0 c_R13m1 c_R13m2 c_R13m3 c_R13m4 c_R13m5 c_R13m6 c_R13m7 c_R13m8 c_R13m9 c_R13m10 c_R13m11 c_R13m12
 have Y7 := R7m_10
 have Y14 := R14m_10
 have bF := b010
 go_upto_region 20 with fail
 rename_i hk20
 have HK20 := Lib.hid hk20
 clear hk20
 obtain ⟨wd, hwd⟩ : ∃ x, w10.drew = x := ⟨_, rfl⟩
 have bd0 : Below w10.heap.size w10 w10.drew := (Below.refl _ _).drew
 rw [hwd] at bd0
 have Y7d := Y7.below bd0 Y7.lt
 have Y14d := Y14.below bd0 Y14.lt
 have HY14 := Lib.hid (Y14d.rowFar (k := q7) (by omega) #[.slice Ag ng cg, .int .i64 o, .slice A n c, .int .u32 nx, .int .i64 md, .int .i64 pf, .bool at_, .bool ha, .int .u32 gs, .int .u32 ga, .slice A1 n1 c1, .slice A2 n2 c2, .slice Ad nr cr])
 have HWD := Lib.hid hwd
 clear hwd
 refine wp_region_held_drew (S := (fun w' => Blk w' qb 77 #[.slice Ag ng cg, .int .i64 o, .slice A n c, .int .u32 nx, .int .i64 md, .int .i64 pf, .bool at_, .bool ha, .int .u32 gs, .int .u32 ga, .slice A1 n1 c1, .slice A2 n2 c2, .slice Ad nr cr])) (by kernel_rfl) ?_ (fun hHeld => ?_)
 ·rw [HWD.out]; exact Y14d
 rw [HWD.out]
 rw [HWD.out] at hHeld
 refine tkh 0 (h := ?_)
 try simp only [Act.put, q1, q2, q3, q4, q5, q6]
 refine wpAnyH_take (i := 1) (v := ?m17_v1) rfl (by kernel_rfl) (by kernel_rfl) (by kernel_rfl) (by intro _ _ _ h; exact h) (Or.inl ⟨by rfl, ?m17_hy1⟩) (by assumption) ?m17_rest1
 case m17_hy1 => (intro w hSw; (try dsimp only at hSw); have z0 := Blk.cell hSw 0; have z1 := Blk.cell hSw 1; have z2 := Blk.cell hSw 2; have z3 := Blk.cell hSw 3; have z4 := Blk.cell hSw 4; have z5 := Blk.cell hSw 5; have z6 := Blk.cell hSw 6; have z7 := Blk.cell hSw 7; have z8 := Blk.cell hSw 8; have z9 := Blk.cell hSw 9; have z10 := Blk.cell hSw 10; have z11 := Blk.cell hSw 11; have z12 := Blk.cell hSw 12; clear hSw; go_simp; try with_reducible rfl)
 try simp only [Act.put, q1, q2, q3, q4, q5, q6]
 refine tkh 2 (h := ?_)
 try simp only [Act.put, q1, q2, q3, q4, q5, q6]
 refine tkr 3 fun K hK => ?_
 go_simp
 go_wp2_with (fail)
 refine hK.out _ _ ?_ (fun hHeld => ?_)
 ·try dsimp only
  exact Y14d
 clear hK K
 refine tkr 4 fun K hK => ?_
 refine step_row rfl 77 (.tmp 7) (.tmp 101) rfl q7 #[.slice Ag ng cg, .int .i64 o, .slice A n c, .int .u32 nx, .int .i64 md, .int .i64 pf, .bool at_, .bool ha, .int .u32 gs, .int .u32 ga, .slice A1 n1 c1, .slice A2 n2 c2, .slice Ad nr cr] (by rfl) (by rfl) 77 #[.slice none 0 0, .int .i64 0, .slice none 0 0, .int .u32 0, .int .i64 0, .int .i64 0, .bool false, .bool false, .int .u32 0, .int .u32 0, .slice none 0 0, .slice none 0 0, .slice none 0 0] Y7d upd_info1 rfl (by kernel_rfl) ?_
 refine hK.out _ _ ?_ (fun hHeld => ?_)
 ·try dsimp only
  exact HY14.out
 clear hK K
 refine tkr 5 fun K hK => ?_
 go_simp
 go_wp2_with (fail)
 refine hK.out _ _ ?_ (fun hHeld => ?_)
 ·try dsimp only
  exact HY14.out
 clear hK K
 refine wpAnyH_done (by kernel_rfl) ?_ _
 refine HK20.out _ _ (wp_ret ?_)
 have gR := row_grown wd q7 #[.slice Ag ng cg, .int .i64 o, .slice A n c, .int .u32 nx, .int .i64 md, .int .i64 pf, .bool at_, .bool ha, .int .u32 gs, .int .u32 ga, .slice A1 n1 c1, .slice A2 n2 c2, .slice Ad nr cr]
 have bX := (btr bF bd0 bF.size).grown gR (btr bF bd0 bF.size).size (fun k hk => by injection hk with hk; omega)
 have sb2 : OB (wd.setRow q7 #[.slice Ag ng cg, .int .i64 o, .slice A n c, .int .u32 nx, .int .i64 md, .int .i64 pf, .bool at_, .bool ha, .int .u32 gs, .int .u32 ga, .slice A1 n1 c1, .slice A2 n2 c2, .slice Ad nr cr]) 5 w9.heap.size Ab nb cb (updB [] sd (pfxB (news.take k))) := ⟨ob.1, own_keep ob.2 (fun k hk => (row_far wd q7 #[.slice Ag ng cg, .int .i64 o, .slice A n c, .int .u32 nx, .int .i64 md, .int .i64 pf, .bool at_, .bool ha, .int .u32 gs, .int .u32 ga, .slice A1 n1 c1, .slice A2 n2 c2, .slice Ad nr cr] (by have := (ob.2.lt k hk).1; have := Y7m; omega)).trans (bd0.block k (ob.2.lt k hk).2))⟩
 have hgd2 := hgS.keep (S' := S) rPfx_ok (Kp.below bX hS)
 have hmd2 := (hmS.keep (S' := S) rPfx_ok (Kp.below bX hS)).drop_ (k := k) (c := cn) HKN.out hcap2.2
 rw [HAD.out, HNR.out] at hmd2
 exact bodyPost_ret (fill_ret rfl _ _ q7 _ _ _ _ _ _ _ _ _ _ _ _ _ _ _ rfl rfl rfl (Y7d.row _)) rfl ⟨Ab, nb, cb, Ag, ng, cg, Ad, nr, cr, by rw [HZ.out]; rfl, sb2.bs, hgd2, hmd2, ⟨hcap2.1, by have := HNR.out; have := HCR.out; have := hcap2; omega⟩, bX⟩
theorem hasN_gr3 (wide : Bool) (a : At) : hasN (grPut wide a).kinds 1 = true ∧ hasN (grPut wide a).kinds 2 = true ∧ hasN (grPut wide a).kinds 3 = true := by
 refine ⟨?_, ?_, ?_⟩
 ·unfold grPut kndA hasN; simp
 ·unfold grPut kndA hasN; simp
 ·unfold grPut kndA hasN; simp
theorem flow_gone {l : List Pfx} (ha : l.all okQ = true) (hw : ∀ p ∈ l, p.1 < 4294967296) (hl : (pfxB l).length < 65536) : updRead (updB (pfxB l) [] []) true false 0 = .ok ⟨l, noAt, []⟩ := by
 unfold updRead
 rw [cut5_put hl (by simp)]
 simp only [Bool.false_eq_true, if_false, pfxs_put _ ha hw, show readAt [] true = .ok (endA true zeroGr, []) from rfl, pfxs_nil, List.length_nil, if_true]
theorem flow_news {a : At} {l : List Pfx} (hr : rightAt a = true) (hx : nextA a.next = true) (hwf : WFA a) (ha : l.all okQ = true) (hw : ∀ p ∈ l, p.1 < 4294967296) (h0 : l.length ≠ 0) (hl : (attsB true a).length < 65536) :
  updRead (updB [] (attsB true a) (pfxB l)) true false 0 = .ok ⟨[], { a with pref := -1 }, l⟩ := by
 have hk := hasN_gr3 true a
 unfold updRead
 rw [cut5_put (by simp) hl]
 simp only [Bool.false_eq_true, if_false, pfxs_nil, read_wide hr hx hwf, pfxs_put _ ha hw]
 rw [if_neg h0, show missK (grPut true a).kinds false = 0 by unfold missK; rw [hk.1, hk.2.1, hk.2.2]; rfl, if_neg (by decide), if_neg (fun h => h.2.1 rfl)]
/-- What is left of attributes. -/
def zAt (z : Bool) (a : At) : At := if z = true then noAt else a
def RetFlow (w : World) (S : Nat → Prop) (ok : Bool) (G N : List Pfx) (o : Int) (A : Option Addr) (n c : Nat) (nx md pf : Int) (at_ ha : Bool) (gs ga : Int) (A1 : Option Addr) (n1 c1 : Nat) (A2 : Option Addr) (n2 c2 : Nat) (e : Ending) (w' : World) : Prop :=
 (∃ x : Int, e = .returned (.tuple #[.slice none 0 0, .agg #[.slice none 0 0, .int .i64 0, .slice none 0 0, .int .u32 0, .int .i64 0, .int .i64 0, .bool false, .bool false, .int .u32 0, .int .u32 0, .slice none 0 0, .slice none 0 0, .slice none 0 0], .int .i64 x]) ∧ (x = 4 ∨ (x = 1 ∧ ok = false)) ∧ Below w.heap.size w w') ∨
 (∃ (bs : List UInt8) (z : Bool) (xG G' xN N' : List Pfx) (xa : At), RetFO w S bs z G' N' o A n c nx md pf at_ ha gs ga A1 n1 c1 A2 n2 c2 e w' ∧ updRead bs true false 0 = .ok ⟨xG, xa, xN⟩ ∧ bs.length ≤ 100000 ∧ xG ++ G' = G ∧ xN ++ N' = N ∧ 0 < xG.length + xN.length ∧ (z = true → N' = []))
theorem RetFO.zero {w : World} {S : Nat → Prop} {bs : List UInt8} {G N : List Pfx} {e : Ending} {w' : World} (o : Int) (A : Option Addr) (n c : Nat) (nx md pf : Int) (at_ ha : Bool) (gs ga : Int) (A1 : Option Addr) (n1 c1 : Nat) (A2 : Option Addr) (n2 c2 : Nat) (h : RetFO w S bs true G N 0 none 0 0 0 0 0 false false 0 0 none 0 0 none 0 0 e w') : RetFO w S bs true G N o A n c nx md pf at_ ha gs ga A1 n1 c1 A2 n2 c2 e w' := h
theorem updB_le {g s m : List UInt8} (h : g.length + s.length + m.length ≤ 90000) : (updB g s m).length ≤ 100000 := by rw [updB_len]; omega
theorem updFlow (z : Bool) (Ag : Option Addr) (ng cg : Nat) (gone : List Pfx) (o : Int) (A : Option Addr) (n c : Nat) (path : List Seg) (nx md pf : Int) (at_ ha : Bool) (gs ga : Int) (A1 : Option Addr) (n1 c1 : Nat) (comms : List Int) (A2 : Option Addr) (n2 c2 : Nat) (raws : List RawV) (An : Option Addr) (nn cn : Nat) (news : List Pfx) (room : Int) (w : World) (S : Nat → Prop) (hS : ∀ b, S b → b < w.heap.size) (hgS : DL rPfx 2 w S Ag ng gone) (hp : DL rSeg 2 w (Lo w) A n path) (hc : NF w (Lo w) A1 n1 comms) (hd : DL rRaw 3 w (Lo w) A2 n2 raws) (hmS : DL rPfx 2 w S An nn news) (hs : Hid (sumN path ≤ big32)) (hw : Hid (0 ≤ nx ∧ nx < 4294967296 ∧ 0 ≤ gs ∧ gs < 4294967296 ∧ 0 ≤ ga ∧ ga < 4294967296)) (hz : n ≤ 12 ∧ n2 ≤ 100000 ∧ ng ≤ 10000 ∧ nn ≤ 10000) (ht : LookTab w) (hcap : ng ≤ cg ∧ nn ≤ cn) (hroom : 900 ≤ room ∧ room ≤ 4000)
  (hr : rightAt (⟨o, path, nx, md, pf, at_, ha, gs, ga, comms, raws⟩ : At) = true) (hx : nextA nx = true) (hwf : WFA (⟨o, path, nx, md, pf, at_, ha, gs, ga, comms, raws⟩ : At)) (hzn : z = true → news = []) (h0 : gone.length + news.length ≠ 0) :
  Calls Tryz.prog 43 #[.agg (flC z Ag ng cg o A n c nx md pf at_ ha gs ga A1 n1 c1 A2 n2 c2 An nn cn), .bool true, .int .i64 room] w (RetFlow w S (updOk ⟨gone, zAt z (⟨o, path, nx, md, pf, at_, ha, gs, ga, comms, raws⟩ : At), news⟩) gone news o A n c nx md pf at_ ha gs ga A1 n1 c1 A2 n2 c2) := by
 have hgw : ∀ p ∈ gone, p.1 < 4294967296 := hgS.wfP
 have hmw : ∀ p ∈ news, p.1 < 4294967296 := hmS.wfP
 have hgl := hgS.len
 have hml := hmS.len
 by_cases hg0 : gone.length = 0
 ·-- news alone
  have hn1 : news.length ≠ 0 := by omega
  have hz0 : z = false := by
   cases z
   ·rfl
   ·have := hzn rfl; rw [this] at hn1; exact absurd rfl hn1
  subst hz0
  have hfl : flC false Ag ng cg o A n c nx md pf at_ ha gs ga A1 n1 c1 A2 n2 c2 An nn cn = #[.slice Ag ng cg, .int .i64 o, .slice A n c, .int .u32 nx, .int .i64 md, .int .i64 pf, .bool at_, .bool ha, .int .u32 gs, .int .u32 ga, .slice A1 n1 c1, .slice A2 n2 c2, .slice An nn cn] := rfl
  rw [hfl]
  have hza : zAt false (⟨o, path, nx, md, pf, at_, ha, gs, ga, comms, raws⟩ : At) = (⟨o, path, nx, md, pf, at_, ha, gs, ga, comms, raws⟩ : At) := rfl
  rw [hza]
  cases hk : updOk (⟨gone, ⟨o, path, nx, md, pf, at_, ha, gs, ga, comms, raws⟩, news⟩ : Upd)
  ·exact (updFill_err Ag ng cg gone o A n c path nx md pf at_ ha gs ga A1 n1 c1 comms A2 n2 c2 raws An nn cn news room w S hS hgS hp hc hd hmS hs hw hz ht hcap hroom hk).mono fun e w' h => .inl ⟨1, h.1, .inr ⟨rfl, rfl⟩, h.2⟩
  ·have hk2 := hk
   unfold updOk at hk2
   simp only [Bool.and_eq_true] at hk2
   have hal := attsB_len true hr
   by_cases hk0 : fitsN news (room - 4 - ((attsB true (⟨o, path, nx, md, pf, at_, ha, gs, ga, comms, raws⟩ : At)).length : Nat)) = 0
   ·exact (updFill_n0 Ag ng cg gone o A n c path nx md pf at_ ha gs ga A1 n1 c1 comms A2 n2 c2 raws An nn cn news room w S hS hgS hp hc hd hmS hs hw hz ht hcap hroom hk hg0 hn1 _ rfl hk0).mono fun e w' h => .inl ⟨4, h.1, .inl rfl, h.2⟩
   ·have hkp : 0 < fitsN news (room - 4 - ((attsB true (⟨o, path, nx, md, pf, at_, ha, gs, ga, comms, raws⟩ : At)).length : Nat)) := by omega
    refine (updFill_n Ag ng cg gone o A n c path nx md pf at_ ha gs ga A1 n1 c1 comms A2 n2 c2 raws An nn cn news room w S hS hgS hp hc hd hmS hs hw hz ht hcap hroom hk hg0 hn1 _ rfl hkp).mono fun e w' h => ?_
    obtain ⟨k, hkk⟩ : ∃ k, fitsN news (room - 4 - ((attsB true (⟨o, path, nx, md, pf, at_, ha, gs, ga, comms, raws⟩ : At)).length : Nat)) = k := ⟨_, rfl⟩
    rw [hkk] at h hkp
    have hkl := fitsN_le news (room - 4 - ((attsB true (⟨o, path, nx, md, pf, at_, ha, gs, ga, comms, raws⟩ : At)).length : Nat))
    rw [hkk] at hkl
    have hpl := pfxB_len (news.take k)
    rw [List.length_take] at hpl
    refine .inr ⟨_, _, [], gone, news.take k, news.drop k, _, h, flow_news hr hx hwf (okQ_take hk2.1.2 k) (fun p hp => hmw p (List.mem_of_mem_take hp)) (by rw [List.length_take]; omega) (by omega), updB_le (by simp only [List.length_nil]; omega), rfl, List.take_append_drop k news, by rw [List.length_take]; simp only [List.length_nil]; omega, fun hz => List.eq_nil_of_length_eq_zero (of_decide_eq_true hz)⟩
 ·-- gone first
  cases z
  ·have hfl : flC false Ag ng cg o A n c nx md pf at_ ha gs ga A1 n1 c1 A2 n2 c2 An nn cn = #[.slice Ag ng cg, .int .i64 o, .slice A n c, .int .u32 nx, .int .i64 md, .int .i64 pf, .bool at_, .bool ha, .int .u32 gs, .int .u32 ga, .slice A1 n1 c1, .slice A2 n2 c2, .slice An nn cn] := rfl
   rw [hfl]
   have hza : zAt false (⟨o, path, nx, md, pf, at_, ha, gs, ga, comms, raws⟩ : At) = (⟨o, path, nx, md, pf, at_, ha, gs, ga, comms, raws⟩ : At) := rfl
   rw [hza]
   cases hk : updOk (⟨gone, ⟨o, path, nx, md, pf, at_, ha, gs, ga, comms, raws⟩, news⟩ : Upd)
   ·exact (updFill_err Ag ng cg gone o A n c path nx md pf at_ ha gs ga A1 n1 c1 comms A2 n2 c2 raws An nn cn news room w S hS hgS hp hc hd hmS hs hw hz ht hcap hroom hk).mono fun e w' h => .inl ⟨1, h.1, .inr ⟨rfl, rfl⟩, h.2⟩
   ·have hk2 := hk
    unfold updOk at hk2
    simp only [Bool.and_eq_true] at hk2
    refine (updFill_g Ag ng cg gone o A n c path nx md pf at_ ha gs ga A1 n1 c1 comms A2 n2 c2 raws An nn cn news room w S hS hgS hp hc hd hmS hs hw hz ht hcap hroom hk hg0 _ rfl).mono fun e w' h => ?_
    have hkp := fitsN_pos (r := room - 4) hg0 hk2.1.1 (by omega)
    obtain ⟨k, hkk⟩ : ∃ k, fitsN gone (room - 4) = k := ⟨_, rfl⟩
    rw [hkk] at h hkp
    have hpl := pfxB_len (gone.take k)
    rw [List.length_take] at hpl
    refine .inr ⟨_, _, gone.take k, gone.drop k, [], news, _, h, flow_gone (okQ_take hk2.1.1 k) (fun p hp => hgw p (List.mem_of_mem_take hp)) (by omega), updB_le (by simp only [List.length_nil]; omega), List.take_append_drop k gone, rfl, by rw [List.length_take]; omega, fun hz => List.eq_nil_of_length_eq_zero (of_decide_eq_true hz)⟩
  ·obtain rfl : news = [] := hzn rfl
   have hfl : flC true Ag ng cg o A n c nx md pf at_ ha gs ga A1 n1 c1 A2 n2 c2 An nn cn = #[.slice Ag ng cg, .int .i64 0, .slice none 0 0, .int .u32 0, .int .i64 0, .int .i64 0, .bool false, .bool false, .int .u32 0, .int .u32 0, .slice none 0 0, .slice none 0 0, .slice An nn cn] := rfl
   rw [hfl]
   have hza : zAt true (⟨o, path, nx, md, pf, at_, ha, gs, ga, comms, raws⟩ : At) = noAt := rfl
   rw [hza]
   cases hk : updOk (⟨gone, noAt, []⟩ : Upd)
   ·exact (updFill_err Ag ng cg gone 0 none 0 0 [] 0 0 0 false false 0 0 none 0 0 [] none 0 0 [] An nn cn [] room w S hS hgS DL.none_ NF.none_ DL.none_ hmS (Lib.hid (by decide)) (Lib.hid (by decide)) ⟨by omega, by omega, hz.2.2.1, hz.2.2.2⟩ ht hcap hroom hk).mono fun e w' h => .inl ⟨1, h.1, .inr ⟨rfl, rfl⟩, h.2⟩
   ·have hk2 := hk
    unfold updOk at hk2
    simp only [Bool.and_eq_true] at hk2
    refine (updFill_g Ag ng cg gone 0 none 0 0 [] 0 0 0 false false 0 0 none 0 0 [] none 0 0 [] An nn cn [] room w S hS hgS DL.none_ NF.none_ DL.none_ hmS (Lib.hid (by decide)) (Lib.hid (by decide)) ⟨by omega, by omega, hz.2.2.1, hz.2.2.2⟩ ht hcap hroom hk hg0 _ rfl).mono fun e w' h => ?_
    have hkp := fitsN_pos (r := room - 4) hg0 hk2.1.1 (by omega)
    obtain ⟨k, hkk⟩ : ∃ k, fitsN gone (room - 4) = k := ⟨_, rfl⟩
    rw [hkk] at h hkp
    have hpl := pfxB_len (gone.take k)
    rw [List.length_take] at hpl
    refine .inr ⟨_, true, gone.take k, gone.drop k, [], [], _, RetFO.zero o A n c nx md pf at_ ha gs ga A1 n1 c1 A2 n2 c2 h, flow_gone (okQ_take hk2.1.1 k) (fun p hp => hgw p (List.mem_of_mem_take hp)) (by omega), updB_le (by simp only [List.length_nil]; omega), List.take_append_drop k gone, rfl, by rw [List.length_take]; omega, fun _ => rfl⟩
/-- What is left of an update that may be, may be. -/
theorem updOk_left {dG G dN N : List Pfx} {a : At} {z : Bool} (h : updOk ⟨dG ++ G, a, dN ++ N⟩ = true) (hz : z = true → N = []) : updOk ⟨G, zAt z a, N⟩ = true := by
 unfold updOk at h ⊢
 simp only [Bool.and_eq_true, Bool.or_eq_true, decide_eq_true_eq, List.all_append, List.length_append] at h ⊢
 refine ⟨⟨h.1.1.2, h.1.2.2⟩, ?_⟩
 cases z
 ·rcases h.2 with h2 | h2
  ·exact .inl (by omega)
  ·exact .inr h2
 ·exact .inl (by rw [hz rfl]; rfl)
set_option maxHeartbeats 2000000 in
set_option maxRecDepth 100000 in
/-- Prefixes that are the same compare so. -/
theorem equalP (A A' : Option Addr) (n c c' : Nat) (l : List Pfx) (w : World) (h : DL rPfx 2 w (Lo w) A n l) (h' : DL rPfx 2 w (Lo w) A' n l) (hbd : n ≤ 1000000) :
  Calls Tryz.prog 132 #[.slice A n c, .slice A' n c'] w fun en w' => en = .returned (.bool true) ∧ Below w.heap.size w w' := by
 have HN := Lib.hid h.len
 go_enter Tryz.func132, Tryz.ntmps132
 go_wp2_with fail
 go_loopw [13] (fun i wr => ∃ j q : Nat, j ≤ n ∧ i = .int .i64 j ∧ wr = w.drewN q) (fun i _ => n - (intOf i).toNat)
 case atStart => exact ⟨0, 0, by omega, rfl, rfl⟩
 case round =>
  obtain ⟨j, q, hj, rfl, rfl⟩ := hrel
  by_cases hlt : j < n
  ·obtain ⟨p, hp⟩ : ∃ p, l[j]? = some p := ⟨_, List.getElem?_eq_getElem (by have := HN.out; omega)⟩
   obtain ⟨b, off, rfl, _, k0, k1, _, _⟩ := h.pfxAt hp
   obtain ⟨b', off', rfl, _, k0', k1', _, _⟩ := h'.pfxAt hp
   have hlti : (j : Int) < n := by omega
   have hd : decide ((j : Int) < n) = true := decide_eq_true hlti
   clear hp
   go_wp2_with fail
   go_quiet (fail)
   go_wp2_with fail
   go_roundw
   case rel => exact ⟨j + 1, q + nq, by omega, by go_num, rfl⟩
   case measure => simp [intOf]; omega
  ·have hd : decide ((j : Int) < n) = false := decide_eq_false (by omega)
   go_wp2_with fail
   go_ret
   exact ⟨rfl, below_drewN (Below.refl _ _) _⟩
set_option maxHeartbeats 2000000 in
set_option maxRecDepth 100000 in
theorem refSame02 (A A' : Option Addr) (n c c' : Nat) (l : List Pfx) (w : World) (h : DL rPfx 2 w (Lo w) A n l) (h' : DL rPfx 2 w (Lo w) A' n l) (hbd : n ≤ 1000000) :
  Calls Tryz.prog 44 #[.slice A n c, .slice A' n c'] w fun en w' => en = .returned (.bool true) ∧ Below w.heap.size w w' := by
 have HN := Lib.hid h.len
 go_enter Tryz.func44, Tryz.ntmps44
 go_wp2_with fail
 go_loopw [5] (fun i wr => ∃ j q : Nat, j ≤ n ∧ i = .int .i64 j ∧ wr = w.drewN q) (fun i _ => n - (intOf i).toNat)
 case atStart => exact ⟨0, 0, by omega, rfl, rfl⟩
 case round =>
  obtain ⟨j, q, hj, rfl, rfl⟩ := hrel
  by_cases hlt : j < n
  ·obtain ⟨p, hp⟩ : ∃ p, l[j]? = some p := ⟨_, List.getElem?_eq_getElem (by have := HN.out; omega)⟩
   obtain ⟨b, off, rfl, _, k0, k1, _, _⟩ := h.pfxAt hp
   obtain ⟨b', off', rfl, _, k0', k1', _, _⟩ := h'.pfxAt hp
   have hlti : (j : Int) < n := by omega
   have hd : decide ((j : Int) < n) = true := decide_eq_true hlti
   clear hp
   go_wp2_with fail
   go_quiet (fail)
   go_wp2_with fail
   go_roundw
   case rel => exact ⟨j + 1, q + nq, by omega, by go_num, rfl⟩
   case measure => simp [intOf]; omega
  ·have hd : decide ((j : Int) < n) = false := decide_eq_false (by omega)
   go_wp2_with fail
   go_ret
   exact ⟨rfl, below_drewN (Below.refl _ _) _⟩
def fewU (u : Upd) (k : Nat) : Bool := fewAt u.a.path u.a.comms u.a.raws && decide (u.gone.length ≤ k) && decide (u.news.length ≤ k)
set_option maxHeartbeats 4000000 in
set_option maxRecDepth 100000 in
theorem law05Few (Ag : Option Addr) (ng cg : Nat) (gone : List Pfx) (o : Int) (A : Option Addr) (n c : Nat) (path : List Seg) (nx md pf : Int) (at_ ha : Bool) (gs ga : Int) (A1 : Option Addr) (n1 c1 : Nat) (comms : List Int) (A2 : Option Addr) (n2 c2 : Nat) (raws : List RawV) (An : Option Addr) (nn cn : Nat) (news : List Pfx) (k : Nat) (w : World) (hg : DL rPfx 2 w (Lo w) Ag ng gone) (hp : DL rSeg 2 w (Lo w) A n path) (hc : NF w (Lo w) A1 n1 comms) (hd : DL rRaw 3 w (Lo w) A2 n2 raws) (hm : DL rPfx 2 w (Lo w) An nn news) (hk : k ≤ 100000) :
  Calls Tryz.prog 34 #[.agg #[.slice Ag ng cg, .int .i64 o, .slice A n c, .int .u32 nx, .int .i64 md, .int .i64 pf, .bool at_, .bool ha, .int .u32 gs, .int .u32 ga, .slice A1 n1 c1, .slice A2 n2 c2, .slice An nn cn], .int .i64 k] w fun en w' => en = .returned (.bool (fewU (⟨gone, ⟨o, path, nx, md, pf, at_, ha, gs, ga, comms, raws⟩, news⟩ : Upd) k)) ∧ Below w.heap.size w w' := by
 obtain ⟨r, hr⟩ : ∃ r, fewAt path comms raws = r := ⟨_, rfl⟩
 have HFW := Lib.hid (show ∀ w', DL rSeg 2 w' (Lo w') A n path → DL rRaw 3 w' (Lo w') A2 n2 raws → Calls Tryz.prog 79 #[.agg #[.int .i64 o, .slice A n c, .int .u32 nx, .int .i64 md, .int .i64 pf, .bool at_, .bool ha, .int .u32 gs, .int .u32 ga, .slice A1 n1 c1, .slice A2 n2 c2]] w' fun en w'' => en = .returned (.bool r) ∧ Below w'.heap.size w' w'' from fun w' h1 h2 => by rw [← hr]; exact law04Few o A n c path nx md pf at_ ha gs ga A1 n1 c1 comms A2 n2 c2 raws w' h1 hc.1 h2)
 have HV := Lib.hid (show fewU (⟨gone, ⟨o, path, nx, md, pf, at_, ha, gs, ga, comms, raws⟩, news⟩ : Upd) k = (r && decide (ng ≤ k) && decide (nn ≤ k)) by unfold fewU; rw [hg.len, hm.len, ← hr])
 obtain ⟨v, hv⟩ : ∃ v, fewU (⟨gone, ⟨o, path, nx, md, pf, at_, ha, gs, ga, comms, raws⟩, news⟩ : Upd) k = v := ⟨_, rfl⟩
 rw [hv] at HV ⊢
 clear hv hr
 obtain ⟨W, hW, hX, b0⟩ := box1c w #[.slice Ag ng cg, .int .i64 o, .slice A n c, .int .u32 nx, .int .i64 md, .int .i64 pf, .bool at_, .bool ha, .int .u32 gs, .int .u32 ga, .slice A1 n1 c1, .slice A2 n2 c2, .slice An nn cn] 77
 go_enter Tryz.func34, Tryz.ntmps34
 go_upto_region 1 with fail
 try rw [hW]
 obtain ⟨q, hq⟩ : ∃ q, w.heap.size = q := ⟨_, rfl⟩
 try rw [hq]
 rw [hq] at hX
 clear hW hq
 have c_hX0 := hX.cell 0
 have c_hX1 := hX.cell 1
 have c_hX2 := hX.cell 2
 have c_hX3 := hX.cell 3
 have c_hX4 := hX.cell 4
 have c_hX5 := hX.cell 5
 have c_hX6 := hX.cell 6
 have c_hX7 := hX.cell 7
 have c_hX8 := hX.cell 8
 have c_hX9 := hX.cell 9
 have c_hX10 := hX.cell 10
 have c_hX11 := hX.cell 11
 have c_hX12 := hX.cell 12
 go_wp2_with fail
 refine (HFW.out _ (hp.segB5 b0) (hd.rawB5 b0)).mono ?_
 rintro _ w1 ⟨rfl, b1⟩
 clear c_hX0 c_hX1 c_hX2 c_hX3 c_hX4 c_hX5 c_hX6 c_hX7 c_hX8 c_hX9 c_hX10 c_hX11 c_hX12
 have b01 := btr b0 b1 b0.size
 have hX_1 := hX.below b1 hX.lt
 have c_hX0 := hX_1.cell 0
 have c_hX1 := hX_1.cell 1
 have c_hX2 := hX_1.cell 2
 have c_hX3 := hX_1.cell 3
 have c_hX4 := hX_1.cell 4
 have c_hX5 := hX_1.cell 5
 have c_hX6 := hX_1.cell 6
 have c_hX7 := hX_1.cell 7
 have c_hX8 := hX_1.cell 8
 have c_hX9 := hX_1.cell 9
 have c_hX10 := hX_1.cell 10
 have c_hX11 := hX_1.cell 11
 have c_hX12 := hX_1.cell 12
 cases r
 ·have HE := Lib.hid (show v = false by rw [HV.out]; rfl)
  go_wp2_with fail
  go_ret
  exact ⟨by rw [HE.out]; rfl, b01⟩
 by_cases h1 : ng ≤ k
 case neg =>
  have t1 : decide ((ng : Int) ≤ k) = false := decide_eq_false (by omega)
  have t2 : decide (ng ≤ k) = false := decide_eq_false h1
  have HE := Lib.hid (show v = false by rw [HV.out, t2]; rfl)
  clear h1
  go_wp2_with fail
  go_ret
  exact ⟨by rw [HE.out]; rfl, b01⟩
 have t1 : decide ((ng : Int) ≤ k) = true := decide_eq_true (by omega)
 have t2 : decide (ng ≤ k) = true := decide_eq_true h1
 by_cases h2 : nn ≤ k
 case neg =>
  have t3 : decide ((nn : Int) ≤ k) = false := decide_eq_false (by omega)
  have t4 : decide (nn ≤ k) = false := decide_eq_false h2
  have HE := Lib.hid (show v = false by rw [HV.out, t2, t4]; rfl)
  clear h1 h2
  go_wp2_with fail
  go_ret
  exact ⟨by rw [HE.out]; rfl, b01⟩
 have t3 : decide ((nn : Int) ≤ k) = true := decide_eq_true (by omega)
 have t4 : decide (nn ≤ k) = true := decide_eq_true h2
 have HE := Lib.hid (show v = true by rw [HV.out, t2, t4]; rfl)
 clear h1 h2
 go_wp2_with fail
 go_ret
 exact ⟨by rw [HE.out]; rfl, b01⟩
set_option maxHeartbeats 4000000 in
set_option maxRecDepth 100000 in
theorem updSame5 (Ag : Option Addr) (ng cg : Nat) (gone : List Pfx) (o : Int) (A : Option Addr) (n c : Nat) (path : List Seg) (nx md pf : Int) (at_ ha : Bool) (gs ga : Int) (A1 : Option Addr) (n1 c1 : Nat) (comms : List Int) (A2 : Option Addr) (n2 c2 : Nat) (raws : List RawV) (An : Option Addr) (nn cn : Nat) (news : List Pfx) (Ag' : Option Addr) (cg' : Nat) (A' : Option Addr) (c' : Nat) (A1' : Option Addr) (c1' : Nat) (A2' : Option Addr) (c2' : Nat) (An' : Option Addr) (cn' : Nat) (w : World) (hg : DL rPfx 2 w (Lo w) Ag ng gone) (hp : DL rSeg 2 w (Lo w) A n path) (hc : NF w (Lo w) A1 n1 comms) (hd : DL rRaw 3 w (Lo w) A2 n2 raws) (hm : DL rPfx 2 w (Lo w) An nn news) (hg' : DL rPfx 2 w (Lo w) Ag' ng gone) (hp' : DL rSeg 2 w (Lo w) A' n path) (hc' : NF w (Lo w) A1' n1 comms) (hd' : DL rRaw 3 w (Lo w) A2' n2 raws) (hm' : DL rPfx 2 w (Lo w) An' nn news) (hn : n ≤ 100000) (hs : Hid (sumN path ≤ big32)) (hn1 : n1 ≤ 100000) (hn2 : n2 ≤ 100000) (hr : Hid (∀ x ∈ raws, x.2.2.length ≤ 100000)) (hng : ng ≤ 1000000) (hnn : nn ≤ 1000000) :
  Calls Tryz.prog 80 #[.agg #[.slice Ag ng cg, .int .i64 o, .slice A n c, .int .u32 nx, .int .i64 md, .int .i64 pf, .bool at_, .bool ha, .int .u32 gs, .int .u32 ga, .slice A1 n1 c1, .slice A2 n2 c2, .slice An nn cn], .agg #[.slice Ag' ng cg', .int .i64 o, .slice A' n c', .int .u32 nx, .int .i64 md, .int .i64 pf, .bool at_, .bool ha, .int .u32 gs, .int .u32 ga, .slice A1' n1 c1', .slice A2' n2 c2', .slice An' nn cn']] w fun en w' => en = .returned (.bool true) ∧ Below w.heap.size w w' := by
 have HSM := Lib.hid (show ∀ w', DL rSeg 2 w' (Lo w') A n path → NF w' (Lo w') A1 n1 comms → DL rRaw 3 w' (Lo w') A2 n2 raws → DL rSeg 2 w' (Lo w') A' n path → NF w' (Lo w') A1' n1 comms → DL rRaw 3 w' (Lo w') A2' n2 raws → Calls Tryz.prog 133 #[.agg #[.int .i64 o, .slice A n c, .int .u32 nx, .int .i64 md, .int .i64 pf, .bool at_, .bool ha, .int .u32 gs, .int .u32 ga, .slice A1 n1 c1, .slice A2 n2 c2], .agg #[.int .i64 o, .slice A' n c', .int .u32 nx, .int .i64 md, .int .i64 pf, .bool at_, .bool ha, .int .u32 gs, .int .u32 ga, .slice A1' n1 c1', .slice A2' n2 c2']] w' fun en w'' => en = .returned (.bool true) ∧ Below w'.heap.size w' w'' from fun w' h1 h2 h3 h4 h5 h6 => by
  have e : sameAt (⟨o, path, nx, md, pf, at_, ha, gs, ga, comms, raws⟩ : At) (⟨o, path, nx, md, pf, at_, ha, gs, ga, comms, raws⟩ : At) = true := sameAt_iff.2 rfl
  rw [← e]
  exact attSame o A n c path nx md pf at_ ha gs ga A1 n1 c1 comms A2 n2 c2 raws o A' n c' path nx md pf at_ ha gs ga A1' n1 c1' comms A2' n2 c2' raws w' h1 h2 h3 h4 h5 h6 hn hs hn1 hn2 hr)
 obtain ⟨W, hW, hX, hY, b0⟩ := boxes2 w #[.slice Ag ng cg, .int .i64 o, .slice A n c, .int .u32 nx, .int .i64 md, .int .i64 pf, .bool at_, .bool ha, .int .u32 gs, .int .u32 ga, .slice A1 n1 c1, .slice A2 n2 c2, .slice An nn cn] #[.slice Ag' ng cg', .int .i64 o, .slice A' n c', .int .u32 nx, .int .i64 md, .int .i64 pf, .bool at_, .bool ha, .int .u32 gs, .int .u32 ga, .slice A1' n1 c1', .slice A2' n2 c2', .slice An' nn cn'] 77 77
 go_enter Tryz.func80, Tryz.ntmps80
 go_upto_region 1 with fail
 try rw [hW]
 obtain ⟨q, hq⟩ : ∃ q, w.heap.size = q := ⟨_, rfl⟩
 try rw [hq]
 rw [hq] at hX hY
 clear hW hq hs hr
 have c_hX0 := hX.cell 0
 have c_hX1 := hX.cell 1
 have c_hX2 := hX.cell 2
 have c_hX3 := hX.cell 3
 have c_hX4 := hX.cell 4
 have c_hX5 := hX.cell 5
 have c_hX6 := hX.cell 6
 have c_hX7 := hX.cell 7
 have c_hX8 := hX.cell 8
 have c_hX9 := hX.cell 9
 have c_hX10 := hX.cell 10
 have c_hX11 := hX.cell 11
 have c_hX12 := hX.cell 12
 have c_hY0 := hY.cell 0
 have c_hY1 := hY.cell 1
 have c_hY2 := hY.cell 2
 have c_hY3 := hY.cell 3
 have c_hY4 := hY.cell 4
 have c_hY5 := hY.cell 5
 have c_hY6 := hY.cell 6
 have c_hY7 := hY.cell 7
 have c_hY8 := hY.cell 8
 have c_hY9 := hY.cell 9
 have c_hY10 := hY.cell 10
 have c_hY11 := hY.cell 11
 have c_hY12 := hY.cell 12
 go_wp2_with fail
 refine (equalP Ag Ag' ng cg cg' gone _ (hg.pfxB5 b0) (hg'.pfxB5 b0) hng).mono ?_
 rintro _ w1 ⟨rfl, b1⟩
 clear c_hX0 c_hX1 c_hX2 c_hX3 c_hX4 c_hX5 c_hX6 c_hX7 c_hX8 c_hX9 c_hX10 c_hX11 c_hX12 c_hY0 c_hY1 c_hY2 c_hY3 c_hY4 c_hY5 c_hY6 c_hY7 c_hY8 c_hY9 c_hY10 c_hY11 c_hY12
 have b01 := btr b0 b1 b0.size
 have hX_1 := hX.below b1 hX.lt
 have hY_1 := hY.below b1 hY.lt
 have c_hX0 := hX_1.cell 0
 have c_hX1 := hX_1.cell 1
 have c_hX2 := hX_1.cell 2
 have c_hX3 := hX_1.cell 3
 have c_hX4 := hX_1.cell 4
 have c_hX5 := hX_1.cell 5
 have c_hX6 := hX_1.cell 6
 have c_hX7 := hX_1.cell 7
 have c_hX8 := hX_1.cell 8
 have c_hX9 := hX_1.cell 9
 have c_hX10 := hX_1.cell 10
 have c_hX11 := hX_1.cell 11
 have c_hX12 := hX_1.cell 12
 have c_hY0 := hY_1.cell 0
 have c_hY1 := hY_1.cell 1
 have c_hY2 := hY_1.cell 2
 have c_hY3 := hY_1.cell 3
 have c_hY4 := hY_1.cell 4
 have c_hY5 := hY_1.cell 5
 have c_hY6 := hY_1.cell 6
 have c_hY7 := hY_1.cell 7
 have c_hY8 := hY_1.cell 8
 have c_hY9 := hY_1.cell 9
 have c_hY10 := hY_1.cell 10
 have c_hY11 := hY_1.cell 11
 have c_hY12 := hY_1.cell 12
 go_wp2_with fail
 refine (equalP An An' nn cn cn' news _ (hm.pfxB5 b01) (hm'.pfxB5 b01) hnn).mono ?_
 rintro _ w2 ⟨rfl, b2⟩
 clear c_hX0 c_hX1 c_hX2 c_hX3 c_hX4 c_hX5 c_hX6 c_hX7 c_hX8 c_hX9 c_hX10 c_hX11 c_hX12 c_hY0 c_hY1 c_hY2 c_hY3 c_hY4 c_hY5 c_hY6 c_hY7 c_hY8 c_hY9 c_hY10 c_hY11 c_hY12
 have b02 := btr b01 b2 b01.size
 have hX_2 := hX_1.below b2 hX_1.lt
 clear hX_1
 have hY_2 := hY_1.below b2 hY_1.lt
 clear hY_1
 have c_hX0 := hX_2.cell 0
 have c_hX1 := hX_2.cell 1
 have c_hX2 := hX_2.cell 2
 have c_hX3 := hX_2.cell 3
 have c_hX4 := hX_2.cell 4
 have c_hX5 := hX_2.cell 5
 have c_hX6 := hX_2.cell 6
 have c_hX7 := hX_2.cell 7
 have c_hX8 := hX_2.cell 8
 have c_hX9 := hX_2.cell 9
 have c_hX10 := hX_2.cell 10
 have c_hX11 := hX_2.cell 11
 have c_hX12 := hX_2.cell 12
 have c_hY0 := hY_2.cell 0
 have c_hY1 := hY_2.cell 1
 have c_hY2 := hY_2.cell 2
 have c_hY3 := hY_2.cell 3
 have c_hY4 := hY_2.cell 4
 have c_hY5 := hY_2.cell 5
 have c_hY6 := hY_2.cell 6
 have c_hY7 := hY_2.cell 7
 have c_hY8 := hY_2.cell 8
 have c_hY9 := hY_2.cell 9
 have c_hY10 := hY_2.cell 10
 have c_hY11 := hY_2.cell 11
 have c_hY12 := hY_2.cell 12
 go_wp2_with fail
 refine (HSM.out _ (hp.segB5 b02) (hc.numB5 b02) (hd.rawB5 b02) (hp'.segB5 b02) (hc'.numB5 b02) (hd'.rawB5 b02)).mono ?_
 rintro _ w3 ⟨rfl, b3⟩
 clear c_hX0 c_hX1 c_hX2 c_hX3 c_hX4 c_hX5 c_hX6 c_hX7 c_hX8 c_hX9 c_hX10 c_hX11 c_hX12 c_hY0 c_hY1 c_hY2 c_hY3 c_hY4 c_hY5 c_hY6 c_hY7 c_hY8 c_hY9 c_hY10 c_hY11 c_hY12
 have b03 := btr b02 b3 b02.size
 have hX_3 := hX_2.below b3 hX_2.lt
 clear hX_2
 have hY_3 := hY_2.below b3 hY_2.lt
 clear hY_2
 have c_hX0 := hX_3.cell 0
 have c_hX1 := hX_3.cell 1
 have c_hX2 := hX_3.cell 2
 have c_hX3 := hX_3.cell 3
 have c_hX4 := hX_3.cell 4
 have c_hX5 := hX_3.cell 5
 have c_hX6 := hX_3.cell 6
 have c_hX7 := hX_3.cell 7
 have c_hX8 := hX_3.cell 8
 have c_hX9 := hX_3.cell 9
 have c_hX10 := hX_3.cell 10
 have c_hX11 := hX_3.cell 11
 have c_hX12 := hX_3.cell 12
 have c_hY0 := hY_3.cell 0
 have c_hY1 := hY_3.cell 1
 have c_hY2 := hY_3.cell 2
 have c_hY3 := hY_3.cell 3
 have c_hY4 := hY_3.cell 4
 have c_hY5 := hY_3.cell 5
 have c_hY6 := hY_3.cell 6
 have c_hY7 := hY_3.cell 7
 have c_hY8 := hY_3.cell 8
 have c_hY9 := hY_3.cell 9
 have c_hY10 := hY_3.cell 10
 have c_hY11 := hY_3.cell 11
 have c_hY12 := hY_3.cell 12
 go_wp2_with fail
 go_ret
 exact ⟨rfl, b03⟩
def exU : Upd := ⟨[(167772160, 8)], noAt, []⟩
def exB5 : List UInt8 := [0, 2, 8, 10, 0, 0]
theorem exPut5 : updPut true exU = (exB5, 0) := by decide +kernel
theorem exRead5 : updRead exB5 true false 0 = .ok exU := by kernel_rfl
set_option maxHeartbeats 4000000 in
set_option maxRecDepth 100000 in
theorem awake05 (w : World) (ht : LookTab w) : Calls Tryz.prog 35 #[] w fun en w' => en = .returned (.bool true) ∧ Below w.heap.size w w' := by
 have HPU := Lib.hid (show ∀ (g : Nat) w', LookTab w' → DL rPfx 2 w' (Lo w') (some ⟨g, 0, none⟩) 1 [(167772160, 8)] → Calls Tryz.prog 36 #[.agg #[.slice (some ⟨g, 0, none⟩) 1 1, .int .i64 0, .slice none 0 0, .int .u32 0, .int .i64 0, .int .i64 0, .bool false, .bool false, .int .u32 0, .int .u32 0, .slice none 0 0, .slice none 0 0, .slice none 0 0], .bool true] w' (RetPut w' exB5 0) from fun g w' h1 h2 => by
  have := updPut5 (some ⟨g, 0, none⟩) 1 1 [(167772160, 8)] 0 none 0 0 [] 0 0 0 false false 0 0 none 0 0 [] none 0 0 [] none 0 0 [] w' h2 DL.none_ NF.none_ DL.none_ DL.none_ (Lib.hid (by decide)) (Lib.hid (by decide)) ⟨by omega, by omega, by omega, by omega⟩ h1
  have e : updPut true (⟨[(167772160, 8)], ⟨0, [], 0, 0, 0, false, false, 0, 0, [], []⟩, []⟩ : Upd) = (exB5, 0) := exPut5
  rw [e] at this
  exact this)
 have HRD := Lib.hid (show ∀ (A : Option Addr) (c : Nat) w', LookTab w' → BS w' w'.heap.size A 6 exB5 → Calls Tryz.prog 40 #[.slice A 6 c, .bool true, .bool false, .int .u32 0] w' (RetUX w' [] (.ok exU)) from fun A c w' h1 h2 => by
  rw [← exRead5]
  exact updReadX [] A 6 c exB5 true false 0 w' (fun x hx => by cases hx) h2 (by omega) h1)
 have HSM := Lib.hid (show ∀ (A : Option Addr) (c : Nat) (A0 : Option Addr) (c0 : Nat) (A1 : Option Addr) (c1 : Nat) (A2 : Option Addr) (c2 : Nat) (A3 : Option Addr) (c3 : Nat) w', DL rPfx 2 w' (Lo w') A 1 [(167772160, 8)] → DL rSeg 2 w' (Lo w') A0 0 [] → NF w' (Lo w') A1 0 [] → DL rRaw 3 w' (Lo w') A2 0 [] → DL rPfx 2 w' (Lo w') A3 0 [] → Calls Tryz.prog 80 #[.agg #[.slice A 1 c, .int .i64 0, .slice A0 0 c0, .int .u32 0, .int .i64 0, .int .i64 0, .bool false, .bool false, .int .u32 0, .int .u32 0, .slice A1 0 c1, .slice A2 0 c2, .slice A3 0 c3], .agg #[.slice A 1 c, .int .i64 0, .slice A0 0 c0, .int .u32 0, .int .i64 0, .int .i64 0, .bool false, .bool false, .int .u32 0, .int .u32 0, .slice A1 0 c1, .slice A2 0 c2, .slice A3 0 c3]] w' fun en w'' => en = .returned (.bool true) ∧ Below w'.heap.size w' w'' from fun A c A0 c0 A1 c1 A2 c2 A3 c3 w' h1 h2 h3 h4 h5 =>
  updSame5 A 1 c [(167772160, 8)] 0 A0 0 c0 [] 0 0 0 false false 0 0 A1 0 c1 [] A2 0 c2 [] A3 0 c3 [] A c A0 c0 A1 c1 A2 c2 A3 c3 w' h1 h2 h3 h4 h5 h1 h2 h3 h4 h5 (by omega) (Lib.hid (by decide)) (by omega) (by omega) (Lib.hid (fun x hx => by cases hx)) (by omega) (by omega))
 obtain ⟨W, hW, hX, b0⟩ := box1c w #[.int .u32 167772160, .int .i64 8] 146
 have hd0 : DL rPfx 2 W (Lo W) (some ⟨w.heap.size, 0, none⟩) 1 [(167772160, 8)] := DL.one rPfx_ok (cs := [.int .u32 167772160, .int .i64 8]) hX (show _ < _ from hX.lt) ⟨rfl, by decide, by decide⟩
 have ht0 := ht.call b0
 subst hW
 go_enter Tryz.func35, Tryz.ntmps35
 go_wp2_with fail
 refine (HPU.out _ _ ht0 hd0).mono ?_
 rintro _ w1 ⟨A1, n1, c1, rfl, o1, b1⟩
 have b01 := btr b0 b1 b0.size
 have hn1 : n1 = 6 := o1.1
 subst hn1
 have ob1 := o1.bs
 clear hd0 ht0 hX
 go_wp2_with fail
 refine (HRD.out A1 c1 _ (ht.call b01) ob1).mono ?_
 rintro _ w2 ⟨b2, hm⟩
 obtain ⟨Ag, ng, cg, A, n, c, A2, n2, c2, A3, n3, c3, An, nn, cn, rfl, d1, d2, d3, d4, d5, hbd⟩ := hm
 simp only [exU, noAt] at d1 d2 d3 d4 d5
 have e1 : ng = 1 := d1.len
 have e2 : n = 0 := d2.len
 have e3 : n2 = 0 := d3.1
 have e4 : n3 = 0 := d4.len
 have e5 : nn = 0 := d5.len
 subst e1 e2 e3 e4 e5
 simp only [exU, noAt]
 have ob2 := ob1.call b2
 have b02 := btr b01 b2 b01.size
 go_upto_region 3 with fail
 obtain ⟨W3, hW3, hX, hF, b3⟩ := boxes2 w2 #[.slice Ag 1 cg, .int .i64 0, .slice A 0 c, .int .u32 0, .int .i64 0, .int .i64 0, .bool false, .bool false, .int .u32 0, .int .u32 0, .slice A2 0 c2, .slice A3 0 c3, .slice An 0 cn] #[.int .i64 0, .int .i64 0, .slice none 0 0] 77 88
 have b03 := btr b02 b3 b02.size
 have f1 := d1.keep (S' := Lo W3) rPfx_ok (fun b hb => ⟨Nat.lt_of_lt_of_le hb.1 b3.size, b3.block b hb.1⟩)
 have f2 := d2.keep (S' := Lo W3) rSeg_ok (fun b hb => ⟨Nat.lt_of_lt_of_le hb.1 b3.size, b3.block b hb.1⟩)
 have f3 := d3.keep (S' := Lo W3) (fun b hb => ⟨Nat.lt_of_lt_of_le hb.1 b3.size, b3.block b hb.1⟩)
 have f4 := d4.keep (S' := Lo W3) rRaw_ok (fun b hb => ⟨Nat.lt_of_lt_of_le hb.1 b3.size, b3.block b hb.1⟩)
 have f5 := d5.keep (S' := Lo W3) rPfx_ok (fun b hb => ⟨Nat.lt_of_lt_of_le hb.1 b3.size, b3.block b hb.1⟩)
 have kc := (ob2.call b3).conv (P := Tryz.prog) 38 9 5 c1 Tryz.underlying38 Tryz.underlying5 Tryz.underlying9
 unfold exB5 at kc
 have fx0 := hF.cell 0
 try rw [hW3]
 obtain ⟨q3, hq3⟩ : ∃ q, w2.heap.size = q := ⟨_, rfl⟩
 try rw [hq3]
 rw [hq3] at hX fx0
 have y0 := hX.cell 0
 have y1 := hX.cell 1
 have y2 := hX.cell 2
 have y3 := hX.cell 3
 have y4 := hX.cell 4
 have y5 := hX.cell 5
 have y6 := hX.cell 6
 have y7 := hX.cell 7
 have y8 := hX.cell 8
 have y9 := hX.cell 9
 have y10 := hX.cell 10
 have y11 := hX.cell 11
 have y12 := hX.cell 12
 clear hW3 hq3 d1 d2 d3 d4 d5 hX hF hbd
 go_wp2_with fail
 refine (HSM.out Ag cg A c A2 c2 A3 c3 An cn W3 f1 f2 f3 f4 f5).mono ?_
 rintro _ w4 ⟨rfl, b4⟩
 go_wp2_with fail
 go_ret
 exact ⟨rfl, btr b03 b4 b03.size⟩
end Go.Proofs.YthgjknmfghjioaaGreatDoor
