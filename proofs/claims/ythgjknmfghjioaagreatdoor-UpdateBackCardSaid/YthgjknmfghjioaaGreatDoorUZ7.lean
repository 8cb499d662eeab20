/- Joined texts (AttPuts UpdC UpdF UpdLawA UpdLawB AttOpn OpenUpd). Conditions: those of the theorems. -/
import Derived.Test.YthgjknmfghjioaaGreatDoorProg
import Derived.WalkKit
import Derived.WalkSpells
import Derived.WalkLawsBesides
import Derived.Outline
import Derived.Deep.QuietTactic
import Derived.BigQuiet
import Derived.Handy
import Derived.Lib.Hide
import Derived.Test.YthgjknmfghjioaaGreatDoorUZ1
import Derived.Test.YthgjknmfghjioaaGreatDoorUZ2
import Derived.Test.YthgjknmfghjioaaGreatDoorUZ3
import Derived.Test.YthgjknmfghjioaaGreatDoorUZ6
import Derived.Deep.DeepCutAuto
import Derived.Deep.CutBlock
import Derived.Laws.Cover4
import Derived.OrdersHeld
import Derived.Deep.RegionHeld
import Derived.Deep.Strs
import Derived.SizedLaws
import Derived.Test.YthgjknmfghjioaaGreatDoorOpen
import Derived.Test.YthgjknmfghjioaaGreatDoorRows
import Derived.ProofKit
import Derived.OpenShut
import Derived.Lib.LaidTab
import Derived.Test.YthgjknmfghjioaaGreatDoorTkh
namespace Go.Proofs.YthgjknmfghjioaaGreatDoor
open Go.RowKit
set_option linter.unusedSimpArgs false
set_option linter.unusedVariables false
set_option maxHeartbeats 8000000 in
set_option maxRecDepth 100000 in
theorem refAttr04 (A : Option Addr) (n c : Nat) (b : List UInt8) (fl kind : Int) (A' : Option Addr) (n' c' : Nat) (v : List UInt8) (w : World) (h : BS w w.heap.size A n b) (h' : BS w w.heap.size A' n' v) (hf0 : 0 ≤ fl) (hf1 : fl ≤ 224) (hk0 : 0 ≤ kind) (hk1 : kind ≤ 255) (hb : b.length ≤ 10000000) (hv : v.length ≤ 60000) :
  Calls Tryz.prog 138 #[.slice A n c, .int .i64 fl, .int .i64 kind, .slice A' n' c'] w (RetB w 5 (b ++ attrB fl kind v)) := by
 have HN := Lib.hid h'.1
 have wk : IntKind.u8.wrap kind = kind := by rw [IntKind.wrap_u8]; omega
 have wf : IntKind.u8.wrap fl = fl := by rw [IntKind.wrap_u8]; omega
 have hn' : n' ≤ 60000 := by have := HN.out; omega
 have HBL := Lib.hid hb
 have HVL := Lib.hid hv
 have HF := Lib.hid (And.intro hf0 hf1)
 have HK := Lib.hid (And.intro hk0 hk1)
 have w16 : IntKind.i64.wrap (fl + 16) = fl + 16 := IntWalk.i64_in _ ⟨by omega, by omega⟩
 have w168 : IntKind.u8.wrap (fl + 16) = fl + 16 := by rw [IntKind.wrap_u8]; omega
 clear hb hv hf0 hf1 hk0 hk1
 go_enter Tryz.func138, Tryz.ntmps138
 go_upto_region 3 with (at_builtin; refine wpl_app rfl (.tmp 10) (.tmp 11) _ rfl 5 Tryz.underlying38 u8info w.heap.size none 0 0 [] (by rfl) OB.nil_ w.heap.size A n c b (by rfl) h (by have := HBL.out; simp; omega) (Nat.le_refl _) ?_; intro A1 n1 c1 w1 o1 b1 g1)
 rw [List.nil_append] at o1
 have HZ1 := Lib.hid b1.size
 by_cases hbig : 255 < n'
 ·have e1 : decide ((255 : Int) < (n' : Int)) = true := decide_eq_true (by omega)
  have e1' : decide (255 < n') = true := decide_eq_true hbig
  have HE := Lib.hid (show attrB fl kind v = [ub (fl + 16), ub kind] ++ b16 (n' : Int) ++ v by unfold attrB; rw [if_pos (by have := HN.out; omega), ← HN.out])
  clear hbig
  have bv2 := BS.one w1 5 (fl + 16) (by have := HF.out; have := HK.out; omega) (by have := HF.out; have := HK.out; omega)
  have ba2 := b1.alloc HZ1.out (.cells #[.int .u8 (fl + 16)] 5)
  go_upto_region 5 with (at_builtin; refine wpl_app rfl (.tmp 16) (.tmp 20) _ rfl 5 Tryz.underlying38 u8info w.heap.size A1 n1 c1 _ (by rfl) (o1.alloc _) (w1.heap.size + 1) (some ⟨w1.heap.size, 0, none⟩) 1 1 [ub (fl + 16)] (by rfl) bv2 (by have := HBL.out; simp; omega) (by have := HZ1.out; simp; omega) ?_; intro A2 n2 c2 w2 o2 b2x g2)
  have b2 := ba2.trans b2x
  have HZ2 := Lib.hid b2.size
  clear bv2 ba2 b2x
  have bv3 := BS.one w2 5 (kind) (by have := HF.out; have := HK.out; omega) (by have := HF.out; have := HK.out; omega)
  have ba3 := b2.alloc HZ2.out (.cells #[.int .u8 (kind)] 5)
  go_upto_region 6 with (at_builtin; refine wpl_app rfl (.tmp 22) (.tmp 25) _ rfl 5 Tryz.underlying38 u8info w.heap.size A2 n2 c2 _ (by rfl) (o2.alloc _) (w2.heap.size + 1) (some ⟨w2.heap.size, 0, none⟩) 1 1 [ub (kind)] (by rfl) bv3 (by have := HBL.out; simp; omega) (by have := HZ2.out; simp; omega) ?_; intro A3 n3 c3 w3 o3 b3x g3)
  have b3 := ba3.trans b3x
  have HZ3 := Lib.hid b3.size
  clear bv3 ba3 b3x
  have HC := Lib.hid (ref01Put16 A3 n3 c3 _ (n' : Int) w3 o3.bs (by have := HBL.out; simp; omega))
  go_wp2_with fail
  refine HC.out.mono ?_
  rintro _ w4 ⟨A4, n4, c4, rfl, o4, b4x⟩
  have b4 := btr b3 b4x b3.size
  have h4 := h'.below b4
  have o4 := o4.low HZ3.out
  have HZ4 := Lib.hid b4.size
  go_wp2_with (at_builtin; refine wpl_app rfl (.tmp 47) (.tmp 48) _ rfl 5 Tryz.underlying38 u8info w.heap.size A4 n4 c4 _ (by rfl) o4 w.heap.size A' n' c' v (by rfl) h4 (by have := HBL.out; have := HVL.out; simp [b16]; omega) HZ4.out ?_; intro A5 n5 c5 w5 o5 b5 g5)
  go_ret
  exact ⟨A5, n5, c5, rfl, by rw [HE.out]; simpa using o5, b4.trans b5⟩
 ·have e1 : decide ((255 : Int) < (n' : Int)) = false := decide_eq_false (by omega)
  have e1' : decide (255 < n') = false := decide_eq_false hbig
  have HE := Lib.hid (show attrB fl kind v = [ub fl, ub kind, ub (n' : Int)] ++ v by unfold attrB; rw [if_neg (by have := HN.out; omega), ← HN.out])
  have wn : IntKind.u8.wrap (n' : Int) = (n' : Int) := by rw [IntKind.wrap_u8]; omega
  have hn255 : (n' : Int) ≤ 255 := by omega
  have hn0 : (0 : Int) ≤ (n' : Int) := by omega
  clear hbig
  have bv2 := BS.one w1 5 (fl) (by have := HF.out; have := HK.out; omega) (by have := HF.out; have := HK.out; omega)
  have ba2 := b1.alloc HZ1.out (.cells #[.int .u8 (fl)] 5)
  go_upto_region 8 with (at_builtin; refine wpl_app rfl (.tmp 31) (.tmp 34) _ rfl 5 Tryz.underlying38 u8info w.heap.size A1 n1 c1 _ (by rfl) (o1.alloc _) (w1.heap.size + 1) (some ⟨w1.heap.size, 0, none⟩) 1 1 [ub (fl)] (by rfl) bv2 (by have := HBL.out; simp; omega) (by have := HZ1.out; simp; omega) ?_; intro A2 n2 c2 w2 o2 b2x g2)
  have b2 := ba2.trans b2x
  have HZ2 := Lib.hid b2.size
  clear bv2 ba2 b2x
  have bv3 := BS.one w2 5 (kind) (by have := HF.out; have := HK.out; omega) (by have := HF.out; have := HK.out; omega)
  have ba3 := b2.alloc HZ2.out (.cells #[.int .u8 (kind)] 5)
  go_upto_region 9 with (at_builtin; refine wpl_app rfl (.tmp 36) (.tmp 39) _ rfl 5 Tryz.underlying38 u8info w.heap.size A2 n2 c2 _ (by rfl) (o2.alloc _) (w2.heap.size + 1) (some ⟨w2.heap.size, 0, none⟩) 1 1 [ub (kind)] (by rfl) bv3 (by have := HBL.out; simp; omega) (by have := HZ2.out; simp; omega) ?_; intro A3 n3 c3 w3 o3 b3x g3)
  have b3 := ba3.trans b3x
  have HZ3 := Lib.hid b3.size
  clear bv3 ba3 b3x
  have bv4 := BS.one w3 5 ((n' : Int)) (by have := HF.out; have := HK.out; omega) (by have := HF.out; have := HK.out; omega)
  have ba4 := b3.alloc HZ3.out (.cells #[.int .u8 ((n' : Int))] 5)
  go_upto_region 10 with (at_builtin; refine wpl_app rfl (.tmp 41) (.tmp 45) _ rfl 5 Tryz.underlying38 u8info w.heap.size A3 n3 c3 _ (by rfl) (o3.alloc _) (w3.heap.size + 1) (some ⟨w3.heap.size, 0, none⟩) 1 1 [ub ((n' : Int))] (by rfl) bv4 (by have := HBL.out; simp; omega) (by have := HZ3.out; simp; omega) ?_; intro A4 n4 c4 w4 o4 b4x g4)
  have b4 := ba4.trans b4x
  have HZ4 := Lib.hid b4.size
  clear bv4 ba4 b4x
  have h4 := h'.below b4
  go_wp2_with (at_builtin; refine wpl_app rfl (.tmp 47) (.tmp 48) _ rfl 5 Tryz.underlying38 u8info w.heap.size A4 n4 c4 _ (by rfl) o4 w.heap.size A' n' c' v (by rfl) h4 (by have := HBL.out; have := HVL.out; simp; omega) HZ4.out ?_; intro A5 n5 c5 w5 o5 b5 g5)
  go_ret
  exact ⟨A5, n5, c5, rfl, by rw [HE.out]; simpa using o5, b4.trans b5⟩
end Go.Proofs.YthgjknmfghjioaaGreatDoor
namespace Go.Proofs.YthgjknmfghjioaaGreatDoor
open Go.RowKit
set_option linter.unusedSimpArgs false
set_option linter.unusedVariables false
theorem only_no (acc l : List UInt8) : acc ++ onlyIf false l = acc := List.append_nil _
theorem only_len {acc : List UInt8} {is : Bool} {fl kind : Int} {v : List UInt8} {K : Nat} (h : acc.length ≤ K) (hv : v.length ≤ 2000) : (acc ++ onlyIf is (attrB fl kind v)).length ≤ K + 3000 := put_len h hv
set_option maxHeartbeats 16000000 in
set_option maxRecDepth 100000 in
theorem refPut04_narrow (o : Int) (A : Option Addr) (n c : Nat) (path : List Seg) (nx md pf : Int) (at_ ha : Bool) (gs ga : Int) (A1 : Option Addr) (n1 c1 : Nat) (comms : List Int) (A2 : Option Addr) (n2 c2 : Nat) (raws : List RawV) (w : World) (hp : DL rSeg 2 w (Lo w) A n path) (hc : NF w (Lo w) A1 n1 comms) (hd : DL rRaw 3 w (Lo w) A2 n2 raws) (hn : n ≤ 12) (hs : Hid (sumN path ≤ big32)) (hn2 : n2 ≤ 100000) (hw : Hid (0 ≤ nx ∧ nx < 4294967296 ∧ 0 ≤ gs ∧ gs < 4294967296 ∧ 0 ≤ ga ∧ ga < 4294967296)) :
  Calls Tryz.prog 84 #[.agg #[.int .i64 o, .slice A n c, .int .u32 nx, .int .i64 md, .int .i64 pf, .bool at_, .bool ha, .int .u32 gs, .int .u32 ga, .slice A1 n1 c1, .slice A2 n2 c2], .bool false] w (RetPE w (putAt false (⟨o, path, nx, md, pf, at_, ha, gs, ga, comms, raws⟩ : At))) := by
 have HN := Lib.hid hd.len
 have HC := Lib.hid hc.1
 obtain ⟨rt, hrt⟩ : ∃ rt, rightAt (⟨o, path, nx, md, pf, at_, ha, gs, ga, comms, raws⟩ : At) = rt := ⟨_, rfl⟩
 have HR := Lib.hid (show ∀ w', DL rSeg 2 w' (Lo w') A n path → DL rRaw 3 w' (Lo w') A2 n2 raws → Calls Tryz.prog 42 #[.agg #[.int .i64 o, .slice A n c, .int .u32 nx, .int .i64 md, .int .i64 pf, .bool at_, .bool ha, .int .u32 gs, .int .u32 ga, .slice A1 n1 c1, .slice A2 n2 c2]] w' fun en w'' => en = .returned (.bool rt) ∧ Below w'.heap.size w' w'' from fun w' h1 h2 => by rw [← hrt]; exact refRight04 o A n c path nx md pf at_ ha gs ga A1 n1 c1 comms A2 n2 c2 raws w' h1 hc.1 h2 (by omega) hn2)
 have HRT := Lib.hid hrt
 obtain ⟨W, hW, hX, bW⟩ := box1c w #[.int .i64 o, .slice A n c, .int .u32 nx, .int .i64 md, .int .i64 pf, .bool at_, .bool ha, .int .u32 gs, .int .u32 ga, .slice A1 n1 c1, .slice A2 n2 c2] 75
 have hpW := hp.keep rSeg_ok (Kp.call bW)
 have hdW := hd.keep rRaw_ok (Kp.call bW)
 have hcW := hc.keep (Kp.call bW)
 have hXl := hX.lt
 have hqW := bW.size
 obtain ⟨q, hq⟩ : ∃ q, w.heap.size = q := ⟨_, rfl⟩
 have HQ := Lib.hid hq
 go_enter Tryz.func84, Tryz.ntmps84
 go_upto_region 1 with fail
 try rw [hW]
 rw [hq] at hX hXl hqW
 try rw [hq]
 have hBW := Lib.hid bW
 clear hW hq hrt bW
 have y0 : W.cell? ⟨q, 0, none⟩ = some (.int .i64 o) := hX.cell 0
 have y1 : W.cell? ⟨q, 1, none⟩ = some (.slice A n c) := hX.cell 1
 have y2 : W.cell? ⟨q, 2, none⟩ = some (.int .u32 nx) := hX.cell 2
 have y3 : W.cell? ⟨q, 3, none⟩ = some (.int .i64 md) := hX.cell 3
 have y4 : W.cell? ⟨q, 4, none⟩ = some (.int .i64 pf) := hX.cell 4
 have y5 : W.cell? ⟨q, 5, none⟩ = some (.bool at_) := hX.cell 5
 have y6 : W.cell? ⟨q, 6, none⟩ = some (.bool ha) := hX.cell 6
 have y7 : W.cell? ⟨q, 7, none⟩ = some (.int .u32 gs) := hX.cell 7
 have y8 : W.cell? ⟨q, 8, none⟩ = some (.int .u32 ga) := hX.cell 8
 have y9 : W.cell? ⟨q, 9, none⟩ = some (.slice A1 n1 c1) := hX.cell 9
 have y10 : W.cell? ⟨q, 10, none⟩ = some (.slice A2 n2 c2) := hX.cell 10
 go_wp2_with fail
 refine (HR.out _ hpW hdW).mono ?_
 rintro _ w1 ⟨rfl, bk1⟩
 clear y0 y1 y2 y3 y4 y5 y6 y7 y8 y9 y10
 cases rt
 ·have HP := Lib.hid (show putAt false (⟨o, path, nx, md, pf, at_, ha, gs, ga, comms, raws⟩ : At) = ([], 1) by unfold putAt; rw [HRT.out]; rfl)
  go_wp2_with fail
  go_ret2
  exact ⟨none, 0, 0, by rw [HP.out]; rfl, by rw [HP.out]; exact OB.nil_, btr hBW.out bk1 hBW.out.size⟩
 have HRG := Lib.hid (rightAt_of HRT.out)
 have HP := Lib.hid (show putAt false (⟨o, path, nx, md, pf, at_, ha, gs, ga, comms, raws⟩ : At) = (attsB false (⟨o, path, nx, md, pf, at_, ha, gs, ga, comms, raws⟩ : At), 0) by unfold putAt; rw [HRT.out]; rfl)
 have HPL := Lib.hid (show (putA false path).length ≤ 2000 ∧ (putA true path).length ≤ 2000 by
  have h1 := rightA_of HRG.out.2.1
  have h2 := putA_len false path
  have h3 := putA_len true path
  simp only at h1
  omega)
 have HNB := Lib.hid (show (-1 ≤ md ∧ md ≤ 4294967295) ∧ (-1 ≤ pf ∧ pf ≤ 4294967295) from ⟨of_decide_eq_true HRG.out.2.2.1, of_decide_eq_true HRG.out.2.2.2.1⟩)
 have HPT := Lib.hid (show ∀ (bb : Bool) w', DL rSeg 2 w' (Lo w') A n path → Calls Tryz.prog 139 #[.slice A n c, .bool bb] w' (RetB w' 5 (putA bb path)) from fun bb w' h => refPut03 A n c path bb w' h hn hs)
 have HPK := Lib.hid (show ∀ w', Below W.heap.size W w' → DL rSeg 2 w' (Lo w') A n path from fun w' h => hpW.keep rSeg_ok (Kp.call h))
 have HDK := Lib.hid (show ∀ w', Below W.heap.size W w' → DL rRaw 3 w' (Lo w') A2 n2 raws from fun w' h => hdW.keep rRaw_ok (Kp.call h))
 have HCK := Lib.hid (show ∀ w', Below W.heap.size W w' → NF w' (Lo w') A1 n1 comms from fun w' h => hcW.keep (Kp.call h))
 have HP32 := Lib.hid (show ∀ (y : Int) (w' : World), 0 ≤ y → y < 4294967296 → Calls Tryz.prog 140 #[.slice none 0 0, .int .u32 y] w' (RetB w' 5 (b32 y)) from fun y w' h0 h1 => by have := ref01Put32 none 0 0 [] y w' ⟨rfl, Reads.none_⟩ (by simp) h0 h1; rwa [List.nil_append] at this)
 have ho0 : 0 ≤ o ∧ o ≤ 2 := HRG.out.1
 obtain ⟨ho0, ho2⟩ := ho0
 have wo : IntKind.u8.wrap o = o := by rw [IntKind.wrap_u8]; omega
 obtain ⟨hw0, hw1, hw2, hw3, hw4, hw5⟩ := hw.out
 have HWN := Lib.hid (And.intro hw0 hw1)
 have HWG := Lib.hid (And.intro hw2 hw3)
 have HWA := Lib.hid (And.intro hw4 hw5)
 clear hw0 hw1 hw2 hw3 hw4 hw5 hpW hdW hcW
 have X_1 := hX.below bk1 hXl
 have x0 : w1.cell? ⟨q, 0, none⟩ = some (.int .i64 o) := X_1.cell 0
 obtain ⟨w2, hw2, hB2, b2⟩ := box1c w1 #[.int .u8 o] 5
 have bs2 : BS w2 w2.heap.size (some ⟨w1.heap.size, 0, none⟩) 1 [ub o] := by rw [← hw2]; exact (BS.one w1 5 o ho0 (by omega)).more (by simp)
 have bk2 := btr bk1 b2 bk1.size
 go_wp2_with fail
 try rw [hw2]
 refine (refAttr04 none 0 0 [] 64 1 (some ⟨w1.heap.size, 0, none⟩) 1 1 [ub o] w2 ⟨rfl, Reads.none_⟩ bs2 (by omega) (by omega) (by omega) (by omega) (by simp) (by simp)).mono ?_
 rintro _ w3 ⟨A3, n3, c3, rfl, o3, b3⟩
 have bk3 := btr bk2 b3 bk2.size
 have o3 := o3.low (Nat.le_trans hqW bk2.size)
 rw [List.nil_append] at o3
 clear x0 hw2 hB2 bs2 b2 b3
 obtain ⟨a3, ha3⟩ : ∃ a, attrB 64 1 [ub o] = a := ⟨_, rfl⟩
 have Kl3 : a3.length ≤ 3000 := by rw [← ha3]; exact by have := attrB_len 64 1 [ub o]; simp at this; omega
 have E3 := Lib.hid ha3
 rw [ha3] at o3
 clear ha3
 have X_3 := hX.below bk3 hXl
 have x1 : w3.cell? ⟨q, 1, none⟩ = some (.slice A n c) := X_3.cell 1
 go_wp2_with fail
 refine (HPT.out false _ (HPK.out _ bk3)).mono ?_
 rintro _ w4 ⟨A40, n40, c40, rfl, o40, b4⟩
 have bk4 := btr bk3 b4 bk3.size
 obtain ⟨A4, n4, c4, hA4⟩ : ∃ A n c, A = A3 ∧ n = n3 ∧ c = c3 := ⟨_, _, _, rfl, rfl, rfl⟩
 obtain ⟨rfl, rfl, rfl⟩ := hA4
 have o4 := o3.below b4
 go_wp2_with fail
 refine (refAttr04 A4 n4 c4 a3 64 2 A40 n40 c40 (putA false path) w4 o4.bs (o40.bs) (by omega) (by omega) (by omega) (by omega) (by have := Kl3; omega) (by have := (HPL.out.1); omega)).mono ?_
 rintro _ w5 ⟨A5, n5, c5, rfl, o5, b5⟩
 have bk5 := btr bk4 b5 bk4.size
 have o5 := o5.low (Nat.le_trans hqW bk4.size)
 obtain ⟨a5, ha5⟩ : ∃ a, a3 ++ attrB 64 2 (putA false path) = a := ⟨_, rfl⟩
 have Kl5 : a5.length ≤ 6000 := by rw [← ha5]; exact by have h1 := attrB_len 64 2 (putA false path); have h2 := HPL.out.1; have h3 := Kl3; rw [List.length_append]; omega
 have E5 := Lib.hid ha5
 rw [ha5] at o5
 clear ha5 x1 o40 o4
 have X_5 := hX.below bk5 hXl
 have x2 : w5.cell? ⟨q, 2, none⟩ = some (.int .u32 nx) := X_5.cell 2
 go_wp2_with fail
 refine (HP32.out nx _ HWN.out.1 HWN.out.2).mono ?_
 rintro _ w6 ⟨A60, n60, c60, rfl, o60, b6⟩
 have bk6 := btr bk5 b6 bk5.size
 obtain ⟨A6, n6, c6, hA6⟩ : ∃ A n c, A = A5 ∧ n = n5 ∧ c = c5 := ⟨_, _, _, rfl, rfl, rfl⟩
 obtain ⟨rfl, rfl, rfl⟩ := hA6
 have o6 := o5.below b6
 go_wp2_with fail
 refine (refAttr04 A6 n6 c6 a5 64 3 A60 n60 c60 (b32 nx) w6 o6.bs (o60.bs) (by omega) (by omega) (by omega) (by omega) (by have := Kl5; omega) (by have := (show (b32 nx).length ≤ 2000 by rw [b32_len]; omega); omega)).mono ?_
 rintro _ w7 ⟨A7, n7, c7, rfl, o7, b7⟩
 have bk7 := btr bk6 b7 bk6.size
 have o7 := o7.low (Nat.le_trans hqW bk6.size)
 obtain ⟨a7, ha7⟩ : ∃ a, a5 ++ attrB 64 3 (b32 nx) = a := ⟨_, rfl⟩
 have Kl7 : a7.length ≤ 9000 := by rw [← ha7]; exact by have h1 := attrB_len 64 3 (b32 nx); have h2 := b32_len nx; have h3 := Kl5; rw [List.length_append]; omega
 have E7 := Lib.hid ha7
 rw [ha7] at o7
 clear ha7 x2 o60 o6
 have X_7 := hX.below bk7 hXl
 have x3 : w7.cell? ⟨q, 3, none⟩ = some (.int .i64 md) := X_7.cell 3
 obtain ⟨a9, ha9⟩ : ∃ a, a7 ++ onlyIf (decide (0 ≤ md)) (attrB 128 4 (b32 (md % 4294967296))) = a := ⟨_, rfl⟩
 have Kl9 : a9.length ≤ 12000 := by rw [← ha9]; exact only_len Kl7 (by rw [b32_len]; omega)
 have E9 := Lib.hid ha9
 go_upto_if 35 with fail
 go_cut [6] (fun s6 wx => ∃ (A : Option Addr) (n c : Nat), s6 = .slice A n c ∧ OB wx 5 q A n c a9 ∧ Below W.heap.size W wx)
 case first =>
  by_cases h0 : 0 ≤ md
  case neg =>
   have t0 : decide (0 ≤ md) = false := decide_eq_false h0
   go_wp2_with fail
   go_meet
   exact ⟨A7, n7, c7, rfl, by rw [← ha9, t0]; simpa [onlyIf] using o7, bk7⟩
  have t0 : decide (0 ≤ md) = true := decide_eq_true h0
  have hmb : md ≤ 4294967295 := HNB.out.1.2
  have hmw : IntKind.u32.wrap md = md := by rw [IntKind.wrap_u32]; omega
  have hmm : md % 4294967296 = md := by omega
  have HM := Lib.hid (And.intro h0 (show md < 4294967296 by omega))
  clear h0 hmb
  go_wp2_with fail
  refine (HP32.out md _ HM.out.1 HM.out.2).mono ?_
  rintro _ w70 ⟨A71, n71, c71, rfl, o71, b70⟩
  have bk70 := btr bk7 b70 bk7.size
  obtain ⟨A70, n70, c70, hA70⟩ : ∃ A n c, A = A7 ∧ n = n7 ∧ c = c7 := ⟨_, _, _, rfl, rfl, rfl⟩
  obtain ⟨rfl, rfl, rfl⟩ := hA70
  have o70 := o7.below b70
  go_wp2_with fail
  refine (refAttr04 A70 n70 c70 a7 128 4 A71 n71 c71 (b32 md) w70 o70.bs (o71.bs) (by omega) (by omega) (by omega) (by omega) (by have := Kl7; omega) (by have := (show (b32 md).length ≤ 2000 by rw [b32_len]; omega); omega)).mono ?_
  rintro _ w72 ⟨A72, n72, c72, rfl, o72, b72⟩
  have bk72 := btr bk70 b72 bk70.size
  have o72 := o72.low (Nat.le_trans hqW bk70.size)
  go_wp2_with fail
  go_meet
  exact ⟨A72, n72, c72, rfl, by rw [← ha9, t0, hmm]; exact o72, bk72⟩
 case rest =>
  obtain ⟨A9, n9, c9, rfl, o9, bk9⟩ := hcut
  obtain ⟨w9, hw9⟩ : ∃ x, x = wc := ⟨_, rfl⟩
  subst hw9
  clear ha9
  have X_9 := hX.below bk9 hXl
  have x4 : w9.cell? ⟨q, 4, none⟩ = some (.int .i64 pf) := X_9.cell 4
  obtain ⟨a11, ha11⟩ : ∃ a, a9 ++ onlyIf (decide (0 ≤ pf)) (attrB 64 5 (b32 (pf % 4294967296))) = a := ⟨_, rfl⟩
  have Kl11 : a11.length ≤ 15000 := by rw [← ha11]; exact only_len Kl9 (by rw [b32_len]; omega)
  have E11 := Lib.hid ha11
  go_upto_if 44 with fail
  go_cut [6] (fun s6 wx => ∃ (A : Option Addr) (n c : Nat), s6 = .slice A n c ∧ OB wx 5 q A n c a11 ∧ Below W.heap.size W wx)
  case first =>
   by_cases h0 : 0 ≤ pf
   case neg =>
    have t0 : decide (0 ≤ pf) = false := decide_eq_false h0
    go_wp2_with fail
    go_meet
    exact ⟨A9, n9, c9, rfl, by rw [← ha11, t0]; simpa [onlyIf] using o9, bk9⟩
   have t0 : decide (0 ≤ pf) = true := decide_eq_true h0
   have hmb : pf ≤ 4294967295 := HNB.out.2.2
   have hmw : IntKind.u32.wrap pf = pf := by rw [IntKind.wrap_u32]; omega
   have hmm : pf % 4294967296 = pf := by omega
   have HM := Lib.hid (And.intro h0 (show pf < 4294967296 by omega))
   clear h0 hmb
   go_wp2_with fail
   refine (HP32.out pf _ HM.out.1 HM.out.2).mono ?_
   rintro _ w90 ⟨A91, n91, c91, rfl, o91, b90⟩
   have bk90 := btr bk9 b90 bk9.size
   obtain ⟨A90, n90, c90, hA90⟩ : ∃ A n c, A = A9 ∧ n = n9 ∧ c = c9 := ⟨_, _, _, rfl, rfl, rfl⟩
   obtain ⟨rfl, rfl, rfl⟩ := hA90
   have o90 := o9.below b90
   go_wp2_with fail
   refine (refAttr04 A90 n90 c90 a9 64 5 A91 n91 c91 (b32 pf) w90 o90.bs (o91.bs) (by omega) (by omega) (by omega) (by omega) (by have := Kl9; omega) (by have := (show (b32 pf).length ≤ 2000 by rw [b32_len]; omega); omega)).mono ?_
   rintro _ w92 ⟨A92, n92, c92, rfl, o92, b92⟩
   have bk92 := btr bk90 b92 bk90.size
   have o92 := o92.low (Nat.le_trans hqW bk90.size)
   go_wp2_with fail
   go_meet
   exact ⟨A92, n92, c92, rfl, by rw [← ha11, t0, hmm]; exact o92, bk92⟩
  case rest =>
   obtain ⟨A11, n11, c11, rfl, o11, bk11⟩ := hcut
   obtain ⟨w11, hw11⟩ : ∃ x, x = wc := ⟨_, rfl⟩
   subst hw11
   clear ha11
   have X_11 := hX.below bk11 hXl
   have x5 : w11.cell? ⟨q, 5, none⟩ = some (.bool at_) := X_11.cell 5
   obtain ⟨a13, ha13⟩ : ∃ a, a11 ++ onlyIf at_ (attrB 64 6 ([])) = a := ⟨_, rfl⟩
   have Kl13 : a13.length ≤ 18000 := by rw [← ha13]; exact only_len Kl11 (by simp)
   have E13 := Lib.hid ha13
   go_upto_if 52 with fail
   go_cut [6] (fun s6 wx => ∃ (A : Option Addr) (n c : Nat), s6 = .slice A n c ∧ OB wx 5 q A n c a13 ∧ Below W.heap.size W wx)
   case first =>
    cases at_
    ·skip
     go_wp2_with fail
     go_meet
     exact ⟨A11, n11, c11, rfl, by rw [← ha13]; simpa [onlyIf] using o11, bk11⟩
    ·skip
     go_wp2_with fail
     refine (refAttr04 A11 n11 c11 a11 64 6 none 0 0 ([]) w11 o11.bs (⟨rfl, Reads.none_⟩) (by omega) (by omega) (by omega) (by omega) (by have := Kl11; omega) (by have := (show ([] : List UInt8).length ≤ 2000 by simp); omega)).mono ?_
     rintro _ w12 ⟨A12, n12, c12, rfl, o12, b12⟩
     have bk12 := btr bk11 b12 bk11.size
     have o12 := o12.low (Nat.le_trans hqW bk11.size)
     go_wp2_with fail
     go_meet
     exact ⟨A12, n12, c12, rfl, by rw [← ha13]; exact o12, bk12⟩
   case rest =>
    obtain ⟨A13, n13, c13, rfl, o13, bk13⟩ := hcut
    obtain ⟨w13, hw13⟩ : ∃ x, x = wc := ⟨_, rfl⟩
    subst hw13
    clear ha13
    have X_13 := hX.below bk13 hXl
    have x6 : w13.cell? ⟨q, 6, none⟩ = some (.bool ha) := X_13.cell 6
    obtain ⟨a15, ha15⟩ : ∃ a, a13 ++ onlyIf ha (attrB 192 7 (asB false gs ++ b32 ga)) = a := ⟨_, rfl⟩
    have Kl15 : a15.length ≤ 21000 := by rw [← ha15]; exact only_len Kl13 (by rw [List.length_append, b32_len]; have := asB_len false gs; omega)
    have E15 := Lib.hid ha15
    go_upto_if 56 with fail
    go_cut [6] (fun s6 wx => ∃ (A : Option Addr) (n c : Nat), s6 = .slice A n c ∧ OB wx 5 q A n c a15 ∧ Below W.heap.size W wx)
    case first =>
     cases ha
     ·skip
      go_wp2_with fail
      go_meet
      exact ⟨A13, n13, c13, rfl, by rw [← ha15]; simpa [onlyIf] using o13, bk13⟩
     ·skip
      have X_13 := hX.below bk13 hXl
      have x7 : w13.cell? ⟨q, 7, none⟩ = some (.int .u32 gs) := X_13.cell 7
      by_cases hbg : 65535 < gs
      ·have tb : decide (65535 < gs) = true := decide_eq_true hbg
       have HA := Lib.hid (show asB false gs = b16 23456 by unfold asB; rw [if_neg (by simp), if_pos hbg])
       clear hbg
       go_wp2_with fail
       refine (ref01Put16 none 0 0 [] 23456 _ ⟨rfl, Reads.none_⟩ (by simp)).mono ?_
       rintro _ w14 ⟨A14a, n14a, c14a, rfl, o14x, b14⟩
       have o14a : OB w14 5 w13.heap.size A14a n14a c14a (asB false gs) := by rw [HA.out]; exact o14x
       clear x7 tb
       have bk14 := btr bk13 b14 bk13.size
       obtain ⟨A14, n14, c14, hA14⟩ : ∃ A n c, A = A13 ∧ n = n13 ∧ c = c13 := ⟨_, _, _, rfl, rfl, rfl⟩
       obtain ⟨rfl, rfl, rfl⟩ := hA14
       have o14 := o13.below b14
       have X_14 := hX.below bk14 hXl
       have x8 : w14.cell? ⟨q, 8, none⟩ = some (.int .u32 ga) := X_14.cell 8
       go_wp2_with fail
       refine (ref01Put32 A14a n14a c14a (asB false gs) ga _ o14a.bs (by have := asB_len false gs; omega) HWA.out.1 HWA.out.2).mono ?_
       rintro _ w16 ⟨A16a, n16a, c16a, rfl, o16a, b16⟩
       clear x8
       have bk16 := btr bk14 b16 bk14.size
       obtain ⟨A16, n16, c16, hA16⟩ : ∃ A n c, A = A14 ∧ n = n14 ∧ c = c14 := ⟨_, _, _, rfl, rfl, rfl⟩
       obtain ⟨rfl, rfl, rfl⟩ := hA16
       have o16 := o14.below b16
       go_wp2_with fail
       refine (refAttr04 A16 n16 c16 a13 192 7 A16a n16a c16a (asB false gs ++ b32 ga) w16 o16.bs (o16a.bs) (by omega) (by omega) (by omega) (by omega) (by have := Kl13; omega) (by have := (show (asB false gs ++ b32 ga).length ≤ 2000 by rw [List.length_append, b32_len]; have := asB_len false gs; omega); omega)).mono ?_
       rintro _ w17 ⟨A17, n17, c17, rfl, o17, b17⟩
       have bk17 := btr bk16 b17 bk16.size
       have o17 := o17.low (Nat.le_trans hqW bk16.size)
       go_wp2_with fail
       go_meet
       exact ⟨A17, n17, c17, rfl, by rw [← ha15]; exact o17, bk17⟩
      ·have tb : decide (65535 < gs) = false := decide_eq_false hbg
       have HA := Lib.hid (show asB false gs = b16 gs by unfold asB; rw [if_neg (by simp), if_neg hbg])
       have wg : IntKind.i64.wrap gs = gs := IntWalk.i64_in _ ⟨by have := HWG.out.1; omega, by have := HWG.out.2; omega⟩
       clear hbg
       go_wp2_with fail
       refine (ref01Put16 none 0 0 [] gs _ ⟨rfl, Reads.none_⟩ (by simp)).mono ?_
       rintro _ w14 ⟨A14a, n14a, c14a, rfl, o14x, b14⟩
       have o14a : OB w14 5 w13.heap.size A14a n14a c14a (asB false gs) := by rw [HA.out]; exact o14x
       clear x7 tb
       have bk14 := btr bk13 b14 bk13.size
       obtain ⟨A14, n14, c14, hA14⟩ : ∃ A n c, A = A13 ∧ n = n13 ∧ c = c13 := ⟨_, _, _, rfl, rfl, rfl⟩
       obtain ⟨rfl, rfl, rfl⟩ := hA14
       have o14 := o13.below b14
       have X_14 := hX.below bk14 hXl
       have x8 : w14.cell? ⟨q, 8, none⟩ = some (.int .u32 ga) := X_14.cell 8
       go_wp2_with fail
       refine (ref01Put32 A14a n14a c14a (asB false gs) ga _ o14a.bs (by have := asB_len false gs; omega) HWA.out.1 HWA.out.2).mono ?_
       rintro _ w16 ⟨A16a, n16a, c16a, rfl, o16a, b16⟩
       clear x8
       have bk16 := btr bk14 b16 bk14.size
       obtain ⟨A16, n16, c16, hA16⟩ : ∃ A n c, A = A14 ∧ n = n14 ∧ c = c14 := ⟨_, _, _, rfl, rfl, rfl⟩
       obtain ⟨rfl, rfl, rfl⟩ := hA16
       have o16 := o14.below b16
       go_wp2_with fail
       refine (refAttr04 A16 n16 c16 a13 192 7 A16a n16a c16a (asB false gs ++ b32 ga) w16 o16.bs (o16a.bs) (by omega) (by omega) (by omega) (by omega) (by have := Kl13; omega) (by have := (show (asB false gs ++ b32 ga).length ≤ 2000 by rw [List.length_append, b32_len]; have := asB_len false gs; omega); omega)).mono ?_
       rintro _ w17 ⟨A17, n17, c17, rfl, o17, b17⟩
       have bk17 := btr bk16 b17 bk16.size
       have o17 := o17.low (Nat.le_trans hqW bk16.size)
       go_wp2_with fail
       go_meet
       exact ⟨A17, n17, c17, rfl, by rw [← ha15]; exact o17, bk17⟩
    case rest =>
     obtain ⟨A15, n15, c15, rfl, o15, bk15⟩ := hcut
     obtain ⟨w15, hw15⟩ : ∃ x, x = wc := ⟨_, rfl⟩
     subst hw15
     clear ha15
     have HCL := Lib.hid (show (comms.flatMap b32).length ≤ 2000 ∧ comms.length ≤ 32 by have h1 := b32_flat comms; have h2 : comms.length ≤ 32 := HRG.out.2.2.2.2.2.1; omega)
     have X_15 := hX.below bk15 hXl
     have x9 : w15.cell? ⟨q, 9, none⟩ = some (.slice A1 n1 c1) := X_15.cell 9
     obtain ⟨dc, hdc⟩ : ∃ d, decide (0 < n1) = d := ⟨_, rfl⟩
     have hdc' : decide ((0 : Int) < (n1 : Int)) = dc := by rw [← hdc]; exact decide_eq_decide.2 (by omega)
     have HDC := Lib.hid hdc
     obtain ⟨a21, ha21⟩ : ∃ a, a15 ++ onlyIf (decide (0 < comms.length)) (attrB 192 8 (comms.flatMap b32)) = a := ⟨_, rfl⟩
     have Kl21 : a21.length ≤ 24000 := by rw [← ha21]; exact only_len Kl15 (HCL.out.1)
     have E21 := Lib.hid ha21
     go_upto_if 81 with fail
     go_cut [6] (fun s6 wx => ∃ (A : Option Addr) (n c : Nat), s6 = .slice A n c ∧ OB wx 5 q A n c a21 ∧ Below W.heap.size W wx)
     case first =>
      cases dc
      case false =>
       have HD := Lib.hid (show decide (0 < comms.length) = false by rw [← HC.out]; exact HDC.out)
       clear hdc hdc'
       go_wp2_with fail
       go_meet
       exact ⟨A15, n15, c15, rfl, by rw [← ha21, HD.out]; simpa [onlyIf] using o15, bk15⟩
      have HD := Lib.hid (show decide (0 < comms.length) = true by rw [← HC.out]; exact HDC.out)
      clear hdc hdc'
      have hzq := Lib.hid (show q ≤ w15.heap.size from Nat.le_trans hqW bk15.size)
      go_wp2_with fail
      go_loopw [8, 9] (fun x i wr => ∃ (j : Nat) (A5 : Option Addr) (n5 c5 : Nat), j ≤ n1 ∧ i = .int .i64 j ∧ x = .slice A5 n5 c5 ∧ OB wr 5 w15.heap.size A5 n5 c5 ((comms.take j).flatMap b32) ∧ Below w15.heap.size w15 wr) (fun _ i _ => n1 - (intOf i).toNat)
      case atStart => exact ⟨0, none, 0, 0, by omega, rfl, rfl, OB.nil_, Below.refl _ _⟩
      case round =>
       obtain ⟨j, A5, n5, c5, hj, rfl, rfl, o5, b16⟩ := hrel
       have bkr := btr bk15 b16 bk15.size
       have X_r := hX.below bkr hXl
       have x9 : wr.cell? ⟨q, 9, none⟩ = some (.slice A1 n1 c1) := X_r.cell 9
       by_cases hlt : j < n1
       case pos =>
        have d1 : decide ((j : Int) < n1) = true := decide_eq_true (by omega)
        have d1' : decide (j < n1) = true := decide_eq_true hlt
        have hlti : (j : Int) < n1 := by omega
        have hj0 : (0 : Int) ≤ (j : Int) := by omega
        obtain ⟨y, hy⟩ : ∃ y, comms[j]? = some y := ⟨_, List.getElem?_eq_getElem (by have := HC.out; omega)⟩
        have hcr := HCK.out _ bkr
        obtain ⟨b, off, rfl, hbl, k0⟩ := hcr.at_ hy
        obtain ⟨hy0, hy1⟩ := hcr.wf_ hy
        have HY := Lib.hid (b32_take hy)
        have HYB := Lib.hid (show 0 ≤ y ∧ y < 4294967296 by omega)
        have HLN := Lib.hid (show ((comms.take j).flatMap b32).length ≤ 100000 by have h1 := b32_flat (comms.take j); have h2 := HCL.out.2; rw [List.length_take] at h1; omega)
        have wj : IntKind.i64.wrap ((j : Int) + 1) = (j : Int) + 1 := IntWalk.i64_in _ ⟨by omega, by have h1 := HCL.out.2; have h2 := HC.out; omega⟩
        clear hy hy0 hy1 hcr
        go_wp2_with fail
        refine (ref01Put32 A5 n5 c5 _ y _ o5.bs (by have := HLN.out; omega) HYB.out.1 HYB.out.2).mono ?_
        rintro _ w6 ⟨A6, n6, c6, rfl, o6, b6⟩
        go_wp2_with fail
        go_roundw
        case rel => exact ⟨j + 1, A6, n6, c6, by omega, by go_num, rfl, by rw [HY.out]; exact o6.low b16.size, btr b16 b6 b16.size⟩
        case measure => simp [intOf]; omega
       have d1 : decide ((j : Int) < n1) = false := decide_eq_false (by omega)
       have d1' : decide (j < n1) = false := decide_eq_false hlt
       have oC : OB wr 5 w15.heap.size A5 n5 c5 (comms.flatMap b32) := by rw [List.take_of_length_le (by have := HC.out; omega)] at o5; exact o5
       obtain ⟨w16, hw16⟩ : ∃ x, x = wr := ⟨_, rfl⟩
       subst hw16
       clear hlt o5 hj bkr X_r
       have bk16 := btr bk15 b16 bk15.size
       obtain ⟨A16, n16, c16, hA16⟩ : ∃ A n c, A = A15 ∧ n = n15 ∧ c = c15 := ⟨_, _, _, rfl, rfl, rfl⟩
       obtain ⟨rfl, rfl, rfl⟩ := hA16
       have o16 := o15.below b16
       go_wp2_with fail
       refine (refAttr04 A16 n16 c16 a15 192 8 A5 n5 c5 (comms.flatMap b32) w16 o16.bs (oC.bs) (by omega) (by omega) (by omega) (by omega) (by have := Kl15; omega) (by have := (HCL.out.1); omega)).mono ?_
       rintro _ w17 ⟨A17, n17, c17, rfl, o17, b17⟩
       have bk17 := btr bk16 b17 bk16.size
       have o17 := o17.low (Nat.le_trans hqW bk16.size)
       go_wp2_with fail
       go_meet
       exact ⟨A17, n17, c17, rfl, by rw [← ha21, HD.out]; exact o17, bk17⟩
     case rest =>
      obtain ⟨A21, n21, c21, rfl, o21, bk21⟩ := hcut
      obtain ⟨w21, hw21⟩ : ∃ x, x = wc := ⟨_, rfl⟩
      subst hw21
      clear ha21
      go_wp2_with fail
      go_loopw [6, 10] (fun x i wr => ∃ (j : Nat) (A0 : Option Addr) (n0 c0 : Nat) (acc : List UInt8), j ≤ n2 ∧ i = .int .i64 j ∧ x = .slice A0 n0 c0 ∧ OB wr 5 q A0 n0 c0 acc ∧ Below W.heap.size W wr ∧ Hid (acc = a21 ++ (raws.take j).flatMap (fun x => attrB x.1 x.2.1 x.2.2)) ∧ Hid (acc.length ≤ 24000 + 3000 * j)) (fun _ i _ => n2 - (intOf i).toNat)
      case atStart => exact ⟨0, A21, n21, c21, a21, by omega, rfl, rfl, o21, bk21, Lib.hid (by simp), Lib.hid (by have := Kl21; omega)⟩
      case round =>
       obtain ⟨j, A0, n0, c0, acc, hj, rfl, rfl, o0, bkr, HAC, HAL⟩ := hrel
       have X_r := hX.below bkr hXl
       have x10 : wr.cell? ⟨q, 10, none⟩ = some (.slice A2 n2 c2) := X_r.cell 10
       by_cases hlt : j < n2
       case pos =>
        have d1 : decide ((j : Int) < n2) = true := decide_eq_true (by omega)
        have d1' : decide (j < n2) = true := decide_eq_true hlt
        have hlti : (j : Int) < n2 := by omega
        have hj0 : (0 : Int) ≤ (j : Int) := by omega
        have hj8 : n2 ≤ 8 := by have h1 : raws.length ≤ 8 := HRG.out.2.2.2.2.2.2.2; have := HN.out; omega
        obtain ⟨x, hx⟩ := getL HN.out hlt
        have hdr := HDK.out wr bkr
        obtain ⟨b, off, A6, n6, c6, rfl, hbl, k0, k1, k2, hbf, hnc6, wf0, wf1⟩ := hdr.rawAt hx
        have hbl : b < wr.heap.size := hbl
        have HTA := Lib.hid (raws_take hx)
        have HGD := Lib.hid (good_raw HRG.out.2.2.2.2.2.2.1 hx)
        obtain ⟨fl, ty, dat⟩ := x
        simp only at k0 k1
        have wj : IntKind.i64.wrap ((j : Int) + 1) = (j : Int) + 1 := IntWalk.i64_in _ ⟨by omega, by omega⟩
        have hbs : BS wr.drew wr.drew.heap.size A6 n6 dat := hbf.lt
        have hod : OB wr.drew 5 q A0 n0 c0 acc := o0
        have HFL := Lib.hid (show fl = 224 from HGD.out.1)
        have HVL := Lib.hid (show (attrB fl ty dat).length ≤ 3000 by have h1 := attrB_len fl ty dat; have h : dat.length ≤ 64 := HGD.out.2.2.2.1; omega)
        have hqd : q < wr.drew.heap.size := X_r.lt
        have hbd : b < wr.drew.heap.size := hbl
        have ct : wr.drew.cell? ⟨q, 10, none⟩ = some (.slice (some ⟨b, off, none⟩) n2 c2) ∧ wr.drew.cell? ⟨b, off + j * 3 + 1, none⟩ = some (.int .i64 ty) ∧ wr.drew.cell? ⟨b, off + j * 3 + 2, none⟩ = some (.slice A6 n6 c6) := ⟨x10, k1, k2⟩
        clear hx hbf wf0 wf1 hnc6 hdr
        go_upto_region 30 with fail
        clear k0 k1 k2 x10
        rename_i hk
        have HKK := Lib.hid hk
        clear hk
        refine wp_region_held_drew (S := (fun w' => w'.cell? ⟨q, 10, none⟩ = some (.slice (some ⟨b, off, none⟩) n2 c2) ∧ w'.cell? ⟨b, off + j * 3 + 1, none⟩ = some (.int .i64 ty) ∧ w'.cell? ⟨b, off + j * 3 + 2, none⟩ = some (.slice A6 n6 c6))) (by kernel_rfl) ?_ (fun hHeld => ?_)
        ·first | exact ct | exact ct5
        refine tkh 0 (h := ?_)
        try simp only [Act.put, q1, q2, q3, q4, q5, q6]
        refine tkh 1 (h := ?_)
        try simp only [Act.put, q1, q2, q3, q4, q5, q6]
        refine tkh 2 (h := ?_)
        try simp only [Act.put, q1, q2, q3, q4, q5, q6]
        refine tkh 3 (h := ?_)
        try simp only [Act.put, q1, q2, q3, q4, q5, q6]
        refine tkh 4 (h := ?_)
        try simp only [Act.put, q1, q2, q3, q4, q5, q6]
        refine tkh 5 (h := ?_)
        try simp only [Act.put, q1, q2, q3, q4, q5, q6]
        refine tkh 6 (h := ?_)
        try simp only [Act.put, q1, q2, q3, q4, q5, q6]
        refine tkh 7 (h := ?_)
        try simp only [Act.put, q1, q2, q3, q4, q5, q6]
        refine tkh 8 (h := ?_)
        try simp only [Act.put, q1, q2, q3, q4, q5, q6]
        refine tkh 9 (h := ?_)
        try simp only [Act.put, q1, q2, q3, q4, q5, q6]
        refine tkh 10 (h := ?_)
        try simp only [Act.put, q1, q2, q3, q4, q5, q6]
        refine tkh 11 (h := ?_)
        try simp only [Act.put, q1, q2, q3, q4, q5, q6]
        refine tkh 12 (h := ?_)
        try simp only [Act.put, q1, q2, q3, q4, q5, q6]
        refine wpAnyH_ready (rs := [13]) (by kernel_rfl) (by simp) ?_
        refine AllReadyH.cons rfl (fun K hK => ?_) AllReadyH.nil
        go_simp
        go_wp2_with (go_at_call 138; refine (refAttr04 A0 n0 c0 acc 224 ty A6 n6 c6 dat _ hod.bs hbs (by omega) (by omega) HGD.out.2.1 HGD.out.2.2.1 (by have h1 := HAL.out; omega) (by have h : dat.length ≤ 64 := HGD.out.2.2.2.1; omega)).mono ?_; rintro _ w30 ⟨A30, n30, c30, rfl, o30, b30⟩; have ct5 := And.intro ((b30.cell (p := ⟨q, 10, none⟩) hqd).trans ct.1) (And.intro ((b30.cell (p := ⟨b, off + j * 3 + 1, none⟩) hbd).trans ct.2.1) ((b30.cell (p := ⟨b, off + j * 3 + 2, none⟩) hbd).trans ct.2.2)))
        refine hK.out _ _ ?_ (fun hHeld => ?_)
        ·try dsimp only
         first | exact ct | exact ct5
        clear hK K
        refine wpAnyH_ready (rs := [14]) (by kernel_rfl) (by simp) ?_
        refine AllReadyH.cons rfl (fun K hK => ?_) AllReadyH.nil
        go_simp
        go_wp2_with (fail)
        refine hK.out _ _ ?_ (fun hHeld => ?_)
        ·try dsimp only
         first | exact ct | exact ct5
        clear hK K
        refine wpAnyH_done (by kernel_rfl) ?_ _
        refine HKK.out _ _ ?_
        have HNX := Lib.hid (show acc ++ attrB 224 ty dat = a21 ++ (raws.take (j + 1)).flatMap (fun x => attrB x.1 x.2.1 x.2.2) by rw [HTA.out, HAC.out, List.append_assoc, HFL.out])
        have HNL := Lib.hid (show (acc ++ attrB 224 ty dat).length ≤ 24000 + 3000 * (j + 1) by have h1 := HAL.out; have h2 := HVL.out; rw [HFL.out] at h2; rw [List.length_append]; omega)
        have bkz := btr bkr ((Below.refl wr.heap.size wr).drew.trans b30) bkr.size
        have oz := o30.low (Nat.le_trans hqW bkr.size)
        clear hHeld ct ct5
        go_wp2_with fail
        go_roundw
        case rel => exact ⟨j + 1, A30, n30, c30, _, by omega, by go_num, rfl, oz, bkz, HNX, HNL⟩
        case measure => simp [intOf]; omega
       have d1 : decide ((j : Int) < n2) = false := decide_eq_false (by omega)
       have d1' : decide (j < n2) = false := decide_eq_false hlt
       have E24 := Lib.hid (show acc = a21 ++ raws.flatMap (fun x => attrB x.1 x.2.1 x.2.2) by have := HAC.out; rwa [List.take_of_length_le (by have := HN.out; omega)] at this)
       have Kl24 : acc.length ≤ 48000 := by have h1 := HAL.out; have h2 : raws.length ≤ 8 := HRG.out.2.2.2.2.2.2.2; have := HN.out; omega
       obtain ⟨w24, hw24⟩ : ∃ w', w' = wr := ⟨_, rfl⟩
       subst hw24
       obtain ⟨A24, n24, c24, h24⟩ : ∃ A n c, A = A0 ∧ n = n0 ∧ c = c0 := ⟨_, _, _, rfl, rfl, rfl⟩
       obtain ⟨rfl, rfl, rfl⟩ := h24
       have o24 := o0
       have bk24 := bkr
       clear hlt hj o0 bkr X_r
       have X_24 := hX.below bk24 hXl
       have x1 : w24.cell? ⟨q, 1, none⟩ = some (.slice A n c) := X_24.cell 1
       go_wp2_with fail
       refine (refFlat03 A n c path _ (HPK.out _ bk24) (by omega) hs).mono ?_
       rintro _ w25 ⟨Af, nf, cf, rfl, of_, b25⟩
       have HNF := Lib.hid of_.1
       have hnf := of_.ns
       have HFB := Lib.hid (show nf ≤ 64 by have h1 := of_.1; have h2 := flatA_len path; have h3 : sumN path ≤ 64 := (rightA_of HRG.out.2.1).2.1; omega)
       clear of_ x1 x10
       have bk25 := btr bk24 b25 bk24.size
       obtain ⟨A25, n25, c25, hA25⟩ : ∃ A n c, A = A24 ∧ n = n24 ∧ c = c24 := ⟨_, _, _, rfl, rfl, rfl⟩
       obtain ⟨rfl, rfl, rfl⟩ := hA25
       have o25 := o24.below b25
       go_wp2_with fail
       go_loopw [11, 13] (fun x i wr => ∃ (j : Nat) (bb : Bool), j ≤ nf ∧ i = .int .i64 j ∧ x = .bool bb ∧ wr = w25 ∧ Hid (bb = bigN ((flatA path).take j))) (fun _ i _ => nf - (intOf i).toNat)
       case atStart => exact ⟨0, false, by omega, rfl, rfl, rfl, Lib.hid (by simp [bigN])⟩
       case round =>
        obtain ⟨j, bb, hj, rfl, rfl, rfl, HBB⟩ := hrel
        by_cases hlt : j < nf
        case pos =>
         have d2 : decide ((j : Int) < nf) = true := decide_eq_true (by omega)
         have d2' : decide (j < nf) = true := decide_eq_true hlt
         have hlti : (j : Int) < nf := by omega
         have hj0 : (0 : Int) ≤ (j : Int) := by omega
         obtain ⟨y, hy⟩ : ∃ y, (flatA path)[j]? = some y := ⟨_, List.getElem?_eq_getElem (by have := HNF.out; omega)⟩
         obtain ⟨b, off, rfl, hbw, hcw⟩ := hnf.form hlt
         rw [hy, Option.getD_some] at hcw
         have HST := Lib.hid (show bigN ((flatA path).take (j + 1)) = (bb || decide (65535 < y)) by
          rw [List.take_succ_eq_append_getElem (List.getElem?_eq_some_iff.1 hy).1, (List.getElem?_eq_some_iff.1 hy).2, HBB.out]
          unfold bigN
          rw [List.any_append]
          simp)
         have wj : IntKind.i64.wrap ((j : Int) + 1) = (j : Int) + 1 := IntWalk.i64_in _ ⟨by omega, by have h1 := HFB.out; omega⟩
         clear hy
         cases bb
         ·obtain ⟨r, hr⟩ : ∃ r, decide (65535 < y) = r := ⟨_, rfl⟩
          have HSN := Lib.hid (show r = bigN ((flatA path).take (j + 1)) by rw [HST.out, hr]; rfl)
          go_wp2_with fail
          go_roundw
          case rel => exact ⟨j + 1, r, by omega, by go_num, (by first | rfl | rw [hr]), (by first | rfl | trivial), HSN⟩
          case measure => simp [intOf]; omega
         ·have HSN := Lib.hid (show true = bigN ((flatA path).take (j + 1)) by rw [HST.out]; rfl)
          go_wp2_with fail
          go_roundw
          case rel => exact ⟨j + 1, true, by omega, by go_num, rfl, (by first | rfl | trivial), HSN⟩
          case measure => simp [intOf]; omega
        have d2 : decide ((j : Int) < nf) = false := decide_eq_false (by omega)
        have d2' : decide (j < nf) = false := decide_eq_false hlt
        have HBN := Lib.hid (show bigN (flatA path) = bb by have := HBB.out; rw [List.take_of_length_le (by have := HNF.out; omega)] at this; exact this.symm)
        obtain ⟨w26, hw26⟩ : ∃ w', w' = wr := ⟨_, rfl⟩
        subst hw26
        obtain ⟨A26, n26, c26, h26⟩ : ∃ A n c, A = A25 ∧ n = n25 ∧ c = c25 := ⟨_, _, _, rfl, rfl, rfl⟩
        obtain ⟨rfl, rfl, rfl⟩ := h26
        have o26 := o25
        have bk26 := bk25
        clear hlt hj o24 o25 b25 hnf
        obtain ⟨bg, hbg⟩ : ∃ bg, decide (65535 < gs) = bg := ⟨_, rfl⟩
        have HBG := Lib.hid hbg
        cases bb
        ·skip
         obtain ⟨a28, ha28⟩ : ∃ a, acc ++ onlyIf false (attrB 192 17 (putA true path)) = a := ⟨_, rfl⟩
         have E28 := Lib.hid ha28
         have Kl28 : a28.length ≤ 51000 := by rw [← ha28]; exact only_len Kl24 HPL.out.2
         have o26 : OB w26 5 q A26 n26 c26 a28 := by rw [← ha28, only_no]; exact o26
         clear ha28
         have X_26 := hX.below bk26 hXl
         have x7 : w26.cell? ⟨q, 7, none⟩ = some (.int .u32 gs) := X_26.cell 7
         have x8 : w26.cell? ⟨q, 8, none⟩ = some (.int .u32 ga) := X_26.cell 8
         cases bg
         ·skip
          obtain ⟨a32, ha32⟩ : ∃ a, a28 ++ onlyIf false (attrB 192 18 (b32 gs ++ b32 ga)) = a := ⟨_, rfl⟩
          have E32 := Lib.hid ha32
          have o32 : OB w26 5 q A26 n26 c26 a32 := by rw [← ha32, only_no]; exact o26
          clear ha32
          have HAL2 := Lib.hid (show attsB false (⟨o, path, nx, md, pf, at_, ha, gs, ga, comms, raws⟩ : At) = a32 by
           rw [← E32.out, ← E28.out, E24.out, ← E21.out, ← E15.out, ← E13.out, ← E11.out, ← E9.out, ← E7.out, ← E5.out, ← E3.out]
           unfold attsB
           simp only [HBN.out, HBG.out]
           simp [onlyIf])
          go_wp2_with fail
          go_ret2
          exact ⟨A26, n26, c26, by rw [HP.out]; rfl, by rw [HP.out, HAL2.out]; exact o32.low (Nat.le_of_eq HQ.out), btr hBW.out bk26 hBW.out.size⟩
         ·skip
          have cx0 : w26.drew.cell? ⟨q, 7, none⟩ = some (.int .u32 gs) ∧ w26.drew.cell? ⟨q, 8, none⟩ = some (.int .u32 ga) := ⟨x7, x8⟩
          have od : OB w26.drew 5 q A26 n26 c26 a28 := o26
          have hqd : q < w26.drew.heap.size := X_26.lt
          go_upto_region 40 with fail
          clear x7 x8
          rename_i hk
          have HKK := Lib.hid hk
          clear hk
          refine wp_region_held_drew (S := (fun w' => w'.cell? ⟨q, 7, none⟩ = some (.int .u32 gs) ∧ w'.cell? ⟨q, 8, none⟩ = some (.int .u32 ga))) (by kernel_rfl) ?_ (fun hHeld => ?_)
          ·first | exact cx0 | exact cx39 | exact cx30 | exact cx31
          refine tkh 0 (h := ?_)
          try simp only [Act.put, q1, q2, q3, q4, q5, q6]
          refine tkh 1 (h := ?_)
          try simp only [Act.put, q1, q2, q3, q4, q5, q6]
          refine tkh 2 (h := ?_)
          try simp only [Act.put, q1, q2, q3, q4, q5, q6]
          refine tkh 4 (h := ?_)
          try simp only [Act.put, q1, q2, q3, q4, q5, q6]
          refine tkh 5 (h := ?_)
          try simp only [Act.put, q1, q2, q3, q4, q5, q6]
          refine wpAnyH_ready (rs := [3]) (by kernel_rfl) (by simp) ?_
          refine AllReadyH.cons rfl (fun K hK => ?_) AllReadyH.nil
          go_simp
          go_wp2_with (go_at_call 140; refine (HP32.out gs _ HWG.out.1 HWG.out.2).mono ?_; rintro _ w39 ⟨A39, n39, c39, rfl, o39, b39⟩; have cx39 := And.intro ((b39.cell (p := ⟨q, 7, none⟩) hqd).trans cx0.1) ((b39.cell (p := ⟨q, 8, none⟩) hqd).trans cx0.2); have od39 := od.below b39; have hq39 : q < w39.heap.size := Nat.lt_of_lt_of_le hqd b39.size)
          refine hK.out _ _ ?_ (fun hHeld => ?_)
          ·try dsimp only
           first | exact cx0 | exact cx39 | exact cx30 | exact cx31
          clear hK K
          refine wpAnyH_ready (rs := [6]) (by kernel_rfl) (by simp) ?_
          refine AllReadyH.cons rfl (fun K hK => ?_) AllReadyH.nil
          go_simp
          go_wp2_with (go_at_call 140; refine (ref01Put32 A39 n39 c39 (b32 gs) ga _ o39.bs (by rw [b32_len]; omega) HWA.out.1 HWA.out.2).mono ?_; rintro _ w30 ⟨A30, n30, c30, rfl, o30, b30⟩; have cx30 := And.intro ((b30.cell (p := ⟨q, 7, none⟩) hq39).trans cx39.1) ((b30.cell (p := ⟨q, 8, none⟩) hq39).trans cx39.2); have od30 := od39.below b30; have hq30 : q < w30.heap.size := Nat.lt_of_lt_of_le hq39 b30.size)
          refine hK.out _ _ ?_ (fun hHeld => ?_)
          ·try dsimp only
           first | exact cx0 | exact cx39 | exact cx30 | exact cx31
          clear hK K
          refine wpAnyH_ready (rs := [7]) (by kernel_rfl) (by simp) ?_
          refine AllReadyH.cons rfl (fun K hK => ?_) AllReadyH.nil
          go_simp
          go_wp2_with (go_at_call 138; refine (refAttr04 A26 n26 c26 a28 192 18 A30 n30 c30 (b32 gs ++ b32 ga) _ od30.bs o30.bs (by omega) (by omega) (by omega) (by omega) (by have := Kl28; omega) (by rw [List.length_append, b32_len, b32_len]; omega)).mono ?_; rintro _ w31 ⟨A31, n31, c31, rfl, o31, b31⟩; have cx31 := And.intro ((b31.cell (p := ⟨q, 7, none⟩) hq30).trans cx30.1) ((b31.cell (p := ⟨q, 8, none⟩) hq30).trans cx30.2))
          refine hK.out _ _ ?_ (fun hHeld => ?_)
          ·try dsimp only
           first | exact cx0 | exact cx39 | exact cx30 | exact cx31
          clear hK K
          refine wpAnyH_ready (rs := [8]) (by kernel_rfl) (by simp) ?_
          refine AllReadyH.cons rfl (fun K hK => ?_) AllReadyH.nil
          go_simp
          go_wp2_with (fail)
          refine hK.out _ _ ?_ (fun hHeld => ?_)
          ·try dsimp only
           first | exact cx0 | exact cx39 | exact cx30 | exact cx31
          clear hK K
          refine wpAnyH_done (by kernel_rfl) ?_ _
          refine HKK.out _ _ ?_
          have bk31 := btr bk26 ((((Below.refl w26.heap.size w26).drew).trans b39).trans ((b30.mono (b39.size)).trans (b31.mono (Nat.le_trans b39.size b30.size)))) bk26.size
          have o31 := o31.low (Nat.le_trans hqW (Nat.le_trans bk26.size (Nat.le_trans b39.size b30.size)))
          clear hHeld cx0 cx39 cx30 cx31
          obtain ⟨a32, ha32⟩ : ∃ a, a28 ++ onlyIf true (attrB 192 18 (b32 gs ++ b32 ga)) = a := ⟨_, rfl⟩
          have E32 := Lib.hid ha32
          have o32 : OB w31 5 q A31 n31 c31 a32 := by rw [← ha32]; exact o31
          clear ha32
          have HAL2 := Lib.hid (show attsB false (⟨o, path, nx, md, pf, at_, ha, gs, ga, comms, raws⟩ : At) = a32 by
           rw [← E32.out, ← E28.out, E24.out, ← E21.out, ← E15.out, ← E13.out, ← E11.out, ← E9.out, ← E7.out, ← E5.out, ← E3.out]
           unfold attsB
           simp only [HBN.out, HBG.out]
           simp [onlyIf])
          go_wp2_with fail
          go_ret2
          exact ⟨A31, n31, c31, by rw [HP.out]; rfl, by rw [HP.out, HAL2.out]; exact o32.low (Nat.le_of_eq HQ.out), btr hBW.out bk31 hBW.out.size⟩
        ·skip
         have X_26 := hX.below bk26 hXl
         have x1 : w26.cell? ⟨q, 1, none⟩ = some (.slice A n c) := X_26.cell 1
         go_wp2_with fail
         refine (HPT.out true _ (HPK.out _ bk26)).mono ?_
         rintro _ w27 ⟨A27a, n27a, c27a, rfl, o27a, b27⟩
         clear x1
         have bk27 := btr bk26 b27 bk26.size
         obtain ⟨A27, n27, c27, hA27⟩ : ∃ A n c, A = A26 ∧ n = n26 ∧ c = c26 := ⟨_, _, _, rfl, rfl, rfl⟩
         obtain ⟨rfl, rfl, rfl⟩ := hA27
         have o27 := o26.below b27
         go_wp2_with fail
         refine (refAttr04 A27 n27 c27 acc 192 17 A27a n27a c27a (putA true path) w27 o27.bs (o27a.bs) (by omega) (by omega) (by omega) (by omega) (by have := Kl24; omega) (by have := (HPL.out.2); omega)).mono ?_
         rintro _ w29 ⟨A29, n29, c29, rfl, o29, b29⟩
         have bk29 := btr bk27 b29 bk27.size
         have o29 := o29.low (Nat.le_trans hqW bk27.size)
         obtain ⟨a28, ha28⟩ : ∃ a, acc ++ onlyIf true (attrB 192 17 (putA true path)) = a := ⟨_, rfl⟩
         have E28 := Lib.hid ha28
         have Kl28 : a28.length ≤ 51000 := by rw [← ha28]; exact only_len Kl24 HPL.out.2
         have o29 : OB w29 5 q A29 n29 c29 a28 := by rw [← ha28]; exact o29
         clear ha28
         have X_29 := hX.below bk29 hXl
         have x7 : w29.cell? ⟨q, 7, none⟩ = some (.int .u32 gs) := X_29.cell 7
         have x8 : w29.cell? ⟨q, 8, none⟩ = some (.int .u32 ga) := X_29.cell 8
         cases bg
         ·skip
          obtain ⟨a32, ha32⟩ : ∃ a, a28 ++ onlyIf false (attrB 192 18 (b32 gs ++ b32 ga)) = a := ⟨_, rfl⟩
          have E32 := Lib.hid ha32
          have o32 : OB w29 5 q A29 n29 c29 a32 := by rw [← ha32, only_no]; exact o29
          clear ha32
          have HAL2 := Lib.hid (show attsB false (⟨o, path, nx, md, pf, at_, ha, gs, ga, comms, raws⟩ : At) = a32 by
           rw [← E32.out, ← E28.out, E24.out, ← E21.out, ← E15.out, ← E13.out, ← E11.out, ← E9.out, ← E7.out, ← E5.out, ← E3.out]
           unfold attsB
           simp only [HBN.out, HBG.out]
           simp [onlyIf])
          go_wp2_with fail
          go_ret2
          exact ⟨A29, n29, c29, by rw [HP.out]; rfl, by rw [HP.out, HAL2.out]; exact o32.low (Nat.le_of_eq HQ.out), btr hBW.out bk29 hBW.out.size⟩
         ·skip
          have cx0 : w29.drew.cell? ⟨q, 7, none⟩ = some (.int .u32 gs) ∧ w29.drew.cell? ⟨q, 8, none⟩ = some (.int .u32 ga) := ⟨x7, x8⟩
          have od : OB w29.drew 5 q A29 n29 c29 a28 := o29
          have hqd : q < w29.drew.heap.size := X_29.lt
          go_upto_region 40 with fail
          clear x7 x8
          rename_i hk
          have HKK := Lib.hid hk
          clear hk
          refine wp_region_held_drew (S := (fun w' => w'.cell? ⟨q, 7, none⟩ = some (.int .u32 gs) ∧ w'.cell? ⟨q, 8, none⟩ = some (.int .u32 ga))) (by kernel_rfl) ?_ (fun hHeld => ?_)
          ·first | exact cx0 | exact cx39 | exact cx30 | exact cx31
          refine tkh 0 (h := ?_)
          try simp only [Act.put, q1, q2, q3, q4, q5, q6]
          refine tkh 1 (h := ?_)
          try simp only [Act.put, q1, q2, q3, q4, q5, q6]
          refine tkh 2 (h := ?_)
          try simp only [Act.put, q1, q2, q3, q4, q5, q6]
          refine tkh 4 (h := ?_)
          try simp only [Act.put, q1, q2, q3, q4, q5, q6]
          refine tkh 5 (h := ?_)
          try simp only [Act.put, q1, q2, q3, q4, q5, q6]
          refine wpAnyH_ready (rs := [3]) (by kernel_rfl) (by simp) ?_
          refine AllReadyH.cons rfl (fun K hK => ?_) AllReadyH.nil
          go_simp
          go_wp2_with (go_at_call 140; refine (HP32.out gs _ HWG.out.1 HWG.out.2).mono ?_; rintro _ w39 ⟨A39, n39, c39, rfl, o39, b39⟩; have cx39 := And.intro ((b39.cell (p := ⟨q, 7, none⟩) hqd).trans cx0.1) ((b39.cell (p := ⟨q, 8, none⟩) hqd).trans cx0.2); have od39 := od.below b39; have hq39 : q < w39.heap.size := Nat.lt_of_lt_of_le hqd b39.size)
          refine hK.out _ _ ?_ (fun hHeld => ?_)
          ·try dsimp only
           first | exact cx0 | exact cx39 | exact cx30 | exact cx31
          clear hK K
          refine wpAnyH_ready (rs := [6]) (by kernel_rfl) (by simp) ?_
          refine AllReadyH.cons rfl (fun K hK => ?_) AllReadyH.nil
          go_simp
          go_wp2_with (go_at_call 140; refine (ref01Put32 A39 n39 c39 (b32 gs) ga _ o39.bs (by rw [b32_len]; omega) HWA.out.1 HWA.out.2).mono ?_; rintro _ w30 ⟨A30, n30, c30, rfl, o30, b30⟩; have cx30 := And.intro ((b30.cell (p := ⟨q, 7, none⟩) hq39).trans cx39.1) ((b30.cell (p := ⟨q, 8, none⟩) hq39).trans cx39.2); have od30 := od39.below b30; have hq30 : q < w30.heap.size := Nat.lt_of_lt_of_le hq39 b30.size)
          refine hK.out _ _ ?_ (fun hHeld => ?_)
          ·try dsimp only
           first | exact cx0 | exact cx39 | exact cx30 | exact cx31
          clear hK K
          refine wpAnyH_ready (rs := [7]) (by kernel_rfl) (by simp) ?_
          refine AllReadyH.cons rfl (fun K hK => ?_) AllReadyH.nil
          go_simp
          go_wp2_with (go_at_call 138; refine (refAttr04 A29 n29 c29 a28 192 18 A30 n30 c30 (b32 gs ++ b32 ga) _ od30.bs o30.bs (by omega) (by omega) (by omega) (by omega) (by have := Kl28; omega) (by rw [List.length_append, b32_len, b32_len]; omega)).mono ?_; rintro _ w31 ⟨A31, n31, c31, rfl, o31, b31⟩; have cx31 := And.intro ((b31.cell (p := ⟨q, 7, none⟩) hq30).trans cx30.1) ((b31.cell (p := ⟨q, 8, none⟩) hq30).trans cx30.2))
          refine hK.out _ _ ?_ (fun hHeld => ?_)
          ·try dsimp only
           first | exact cx0 | exact cx39 | exact cx30 | exact cx31
          clear hK K
          refine wpAnyH_ready (rs := [8]) (by kernel_rfl) (by simp) ?_
          refine AllReadyH.cons rfl (fun K hK => ?_) AllReadyH.nil
          go_simp
          go_wp2_with (fail)
          refine hK.out _ _ ?_ (fun hHeld => ?_)
          ·try dsimp only
           first | exact cx0 | exact cx39 | exact cx30 | exact cx31
          clear hK K
          refine wpAnyH_done (by kernel_rfl) ?_ _
          refine HKK.out _ _ ?_
          have bk31 := btr bk29 ((((Below.refl w29.heap.size w29).drew).trans b39).trans ((b30.mono (b39.size)).trans (b31.mono (Nat.le_trans b39.size b30.size)))) bk29.size
          have o31 := o31.low (Nat.le_trans hqW (Nat.le_trans bk29.size (Nat.le_trans b39.size b30.size)))
          clear hHeld cx0 cx39 cx30 cx31
          obtain ⟨a32, ha32⟩ : ∃ a, a28 ++ onlyIf true (attrB 192 18 (b32 gs ++ b32 ga)) = a := ⟨_, rfl⟩
          have E32 := Lib.hid ha32
          have o32 : OB w31 5 q A31 n31 c31 a32 := by rw [← ha32]; exact o31
          clear ha32
          have HAL2 := Lib.hid (show attsB false (⟨o, path, nx, md, pf, at_, ha, gs, ga, comms, raws⟩ : At) = a32 by
           rw [← E32.out, ← E28.out, E24.out, ← E21.out, ← E15.out, ← E13.out, ← E11.out, ← E9.out, ← E7.out, ← E5.out, ← E3.out]
           unfold attsB
           simp only [HBN.out, HBG.out]
           simp [onlyIf])
          go_wp2_with fail
          go_ret2
          exact ⟨A31, n31, c31, by rw [HP.out]; rfl, by rw [HP.out, HAL2.out]; exact o32.low (Nat.le_of_eq HQ.out), btr hBW.out bk31 hBW.out.size⟩
set_option maxHeartbeats 16000000 in
set_option maxRecDepth 100000 in
theorem refPut04_wide (o : Int) (A : Option Addr) (n c : Nat) (path : List Seg) (nx md pf : Int) (at_ ha : Bool) (gs ga : Int) (A1 : Option Addr) (n1 c1 : Nat) (comms : List Int) (A2 : Option Addr) (n2 c2 : Nat) (raws : List RawV) (w : World) (hp : DL rSeg 2 w (Lo w) A n path) (hc : NF w (Lo w) A1 n1 comms) (hd : DL rRaw 3 w (Lo w) A2 n2 raws) (hn : n ≤ 12) (hs : Hid (sumN path ≤ big32)) (hn2 : n2 ≤ 100000) (hw : Hid (0 ≤ nx ∧ nx < 4294967296 ∧ 0 ≤ gs ∧ gs < 4294967296 ∧ 0 ≤ ga ∧ ga < 4294967296)) :
  Calls Tryz.prog 84 #[.agg #[.int .i64 o, .slice A n c, .int .u32 nx, .int .i64 md, .int .i64 pf, .bool at_, .bool ha, .int .u32 gs, .int .u32 ga, .slice A1 n1 c1, .slice A2 n2 c2], .bool true] w (RetPE w (putAt true (⟨o, path, nx, md, pf, at_, ha, gs, ga, comms, raws⟩ : At))) := by
 have HN := Lib.hid hd.len
 have HC := Lib.hid hc.1
 obtain ⟨rt, hrt⟩ : ∃ rt, rightAt (⟨o, path, nx, md, pf, at_, ha, gs, ga, comms, raws⟩ : At) = rt := ⟨_, rfl⟩
 have HR := Lib.hid (show ∀ w', DL rSeg 2 w' (Lo w') A n path → DL rRaw 3 w' (Lo w') A2 n2 raws → Calls Tryz.prog 42 #[.agg #[.int .i64 o, .slice A n c, .int .u32 nx, .int .i64 md, .int .i64 pf, .bool at_, .bool ha, .int .u32 gs, .int .u32 ga, .slice A1 n1 c1, .slice A2 n2 c2]] w' fun en w'' => en = .returned (.bool rt) ∧ Below w'.heap.size w' w'' from fun w' h1 h2 => by rw [← hrt]; exact refRight04 o A n c path nx md pf at_ ha gs ga A1 n1 c1 comms A2 n2 c2 raws w' h1 hc.1 h2 (by omega) hn2)
 have HRT := Lib.hid hrt
 obtain ⟨W, hW, hX, bW⟩ := box1c w #[.int .i64 o, .slice A n c, .int .u32 nx, .int .i64 md, .int .i64 pf, .bool at_, .bool ha, .int .u32 gs, .int .u32 ga, .slice A1 n1 c1, .slice A2 n2 c2] 75
 have hpW := hp.keep rSeg_ok (Kp.call bW)
 have hdW := hd.keep rRaw_ok (Kp.call bW)
 have hcW := hc.keep (Kp.call bW)
 have hXl := hX.lt
 have hqW := bW.size
 obtain ⟨q, hq⟩ : ∃ q, w.heap.size = q := ⟨_, rfl⟩
 have HQ := Lib.hid hq
 go_enter Tryz.func84, Tryz.ntmps84
 go_upto_region 1 with fail
 try rw [hW]
 rw [hq] at hX hXl hqW
 try rw [hq]
 have hBW := Lib.hid bW
 clear hW hq hrt bW
 have y0 : W.cell? ⟨q, 0, none⟩ = some (.int .i64 o) := hX.cell 0
 have y1 : W.cell? ⟨q, 1, none⟩ = some (.slice A n c) := hX.cell 1
 have y2 : W.cell? ⟨q, 2, none⟩ = some (.int .u32 nx) := hX.cell 2
 have y3 : W.cell? ⟨q, 3, none⟩ = some (.int .i64 md) := hX.cell 3
 have y4 : W.cell? ⟨q, 4, none⟩ = some (.int .i64 pf) := hX.cell 4
 have y5 : W.cell? ⟨q, 5, none⟩ = some (.bool at_) := hX.cell 5
 have y6 : W.cell? ⟨q, 6, none⟩ = some (.bool ha) := hX.cell 6
 have y7 : W.cell? ⟨q, 7, none⟩ = some (.int .u32 gs) := hX.cell 7
 have y8 : W.cell? ⟨q, 8, none⟩ = some (.int .u32 ga) := hX.cell 8
 have y9 : W.cell? ⟨q, 9, none⟩ = some (.slice A1 n1 c1) := hX.cell 9
 have y10 : W.cell? ⟨q, 10, none⟩ = some (.slice A2 n2 c2) := hX.cell 10
 go_wp2_with fail
 refine (HR.out _ hpW hdW).mono ?_
 rintro _ w1 ⟨rfl, bk1⟩
 clear y0 y1 y2 y3 y4 y5 y6 y7 y8 y9 y10
 cases rt
 ·have HP := Lib.hid (show putAt true (⟨o, path, nx, md, pf, at_, ha, gs, ga, comms, raws⟩ : At) = ([], 1) by unfold putAt; rw [HRT.out]; rfl)
  go_wp2_with fail
  go_ret2
  exact ⟨none, 0, 0, by rw [HP.out]; rfl, by rw [HP.out]; exact OB.nil_, btr hBW.out bk1 hBW.out.size⟩
 have HRG := Lib.hid (rightAt_of HRT.out)
 have HP := Lib.hid (show putAt true (⟨o, path, nx, md, pf, at_, ha, gs, ga, comms, raws⟩ : At) = (attsB true (⟨o, path, nx, md, pf, at_, ha, gs, ga, comms, raws⟩ : At), 0) by unfold putAt; rw [HRT.out]; rfl)
 have HPL := Lib.hid (show (putA true path).length ≤ 2000 ∧ (putA true path).length ≤ 2000 by
  have h1 := rightA_of HRG.out.2.1
  have h2 := putA_len true path
  have h3 := putA_len true path
  simp only at h1
  omega)
 have HNB := Lib.hid (show (-1 ≤ md ∧ md ≤ 4294967295) ∧ (-1 ≤ pf ∧ pf ≤ 4294967295) from ⟨of_decide_eq_true HRG.out.2.2.1, of_decide_eq_true HRG.out.2.2.2.1⟩)
 have HPT := Lib.hid (show ∀ (bb : Bool) w', DL rSeg 2 w' (Lo w') A n path → Calls Tryz.prog 139 #[.slice A n c, .bool bb] w' (RetB w' 5 (putA bb path)) from fun bb w' h => refPut03 A n c path bb w' h hn hs)
 have HPK := Lib.hid (show ∀ w', Below W.heap.size W w' → DL rSeg 2 w' (Lo w') A n path from fun w' h => hpW.keep rSeg_ok (Kp.call h))
 have HDK := Lib.hid (show ∀ w', Below W.heap.size W w' → DL rRaw 3 w' (Lo w') A2 n2 raws from fun w' h => hdW.keep rRaw_ok (Kp.call h))
 have HCK := Lib.hid (show ∀ w', Below W.heap.size W w' → NF w' (Lo w') A1 n1 comms from fun w' h => hcW.keep (Kp.call h))
 have HP32 := Lib.hid (show ∀ (y : Int) (w' : World), 0 ≤ y → y < 4294967296 → Calls Tryz.prog 140 #[.slice none 0 0, .int .u32 y] w' (RetB w' 5 (b32 y)) from fun y w' h0 h1 => by have := ref01Put32 none 0 0 [] y w' ⟨rfl, Reads.none_⟩ (by simp) h0 h1; rwa [List.nil_append] at this)
 have ho0 : 0 ≤ o ∧ o ≤ 2 := HRG.out.1
 obtain ⟨ho0, ho2⟩ := ho0
 have wo : IntKind.u8.wrap o = o := by rw [IntKind.wrap_u8]; omega
 obtain ⟨hw0, hw1, hw2, hw3, hw4, hw5⟩ := hw.out
 have HWN := Lib.hid (And.intro hw0 hw1)
 have HWG := Lib.hid (And.intro hw2 hw3)
 have HWA := Lib.hid (And.intro hw4 hw5)
 clear hw0 hw1 hw2 hw3 hw4 hw5 hpW hdW hcW
 have X_1 := hX.below bk1 hXl
 have x0 : w1.cell? ⟨q, 0, none⟩ = some (.int .i64 o) := X_1.cell 0
 obtain ⟨w2, hw2, hB2, b2⟩ := box1c w1 #[.int .u8 o] 5
 have bs2 : BS w2 w2.heap.size (some ⟨w1.heap.size, 0, none⟩) 1 [ub o] := by rw [← hw2]; exact (BS.one w1 5 o ho0 (by omega)).more (by simp)
 have bk2 := btr bk1 b2 bk1.size
 go_wp2_with fail
 try rw [hw2]
 refine (refAttr04 none 0 0 [] 64 1 (some ⟨w1.heap.size, 0, none⟩) 1 1 [ub o] w2 ⟨rfl, Reads.none_⟩ bs2 (by omega) (by omega) (by omega) (by omega) (by simp) (by simp)).mono ?_
 rintro _ w3 ⟨A3, n3, c3, rfl, o3, b3⟩
 have bk3 := btr bk2 b3 bk2.size
 have o3 := o3.low (Nat.le_trans hqW bk2.size)
 rw [List.nil_append] at o3
 clear x0 hw2 hB2 bs2 b2 b3
 obtain ⟨a3, ha3⟩ : ∃ a, attrB 64 1 [ub o] = a := ⟨_, rfl⟩
 have Kl3 : a3.length ≤ 3000 := by rw [← ha3]; exact by have := attrB_len 64 1 [ub o]; simp at this; omega
 have E3 := Lib.hid ha3
 rw [ha3] at o3
 clear ha3
 have X_3 := hX.below bk3 hXl
 have x1 : w3.cell? ⟨q, 1, none⟩ = some (.slice A n c) := X_3.cell 1
 go_wp2_with fail
 refine (HPT.out true _ (HPK.out _ bk3)).mono ?_
 rintro _ w4 ⟨A40, n40, c40, rfl, o40, b4⟩
 have bk4 := btr bk3 b4 bk3.size
 obtain ⟨A4, n4, c4, hA4⟩ : ∃ A n c, A = A3 ∧ n = n3 ∧ c = c3 := ⟨_, _, _, rfl, rfl, rfl⟩
 obtain ⟨rfl, rfl, rfl⟩ := hA4
 have o4 := o3.below b4
 go_wp2_with fail
 refine (refAttr04 A4 n4 c4 a3 64 2 A40 n40 c40 (putA true path) w4 o4.bs (o40.bs) (by omega) (by omega) (by omega) (by omega) (by have := Kl3; omega) (by have := (HPL.out.1); omega)).mono ?_
 rintro _ w5 ⟨A5, n5, c5, rfl, o5, b5⟩
 have bk5 := btr bk4 b5 bk4.size
 have o5 := o5.low (Nat.le_trans hqW bk4.size)
 obtain ⟨a5, ha5⟩ : ∃ a, a3 ++ attrB 64 2 (putA true path) = a := ⟨_, rfl⟩
 have Kl5 : a5.length ≤ 6000 := by rw [← ha5]; exact by have h1 := attrB_len 64 2 (putA true path); have h2 := HPL.out.1; have h3 := Kl3; rw [List.length_append]; omega
 have E5 := Lib.hid ha5
 rw [ha5] at o5
 clear ha5 x1 o40 o4
 have X_5 := hX.below bk5 hXl
 have x2 : w5.cell? ⟨q, 2, none⟩ = some (.int .u32 nx) := X_5.cell 2
 go_wp2_with fail
 refine (HP32.out nx _ HWN.out.1 HWN.out.2).mono ?_
 rintro _ w6 ⟨A60, n60, c60, rfl, o60, b6⟩
 have bk6 := btr bk5 b6 bk5.size
 obtain ⟨A6, n6, c6, hA6⟩ : ∃ A n c, A = A5 ∧ n = n5 ∧ c = c5 := ⟨_, _, _, rfl, rfl, rfl⟩
 obtain ⟨rfl, rfl, rfl⟩ := hA6
 have o6 := o5.below b6
 go_wp2_with fail
 refine (refAttr04 A6 n6 c6 a5 64 3 A60 n60 c60 (b32 nx) w6 o6.bs (o60.bs) (by omega) (by omega) (by omega) (by omega) (by have := Kl5; omega) (by have := (show (b32 nx).length ≤ 2000 by rw [b32_len]; omega); omega)).mono ?_
 rintro _ w7 ⟨A7, n7, c7, rfl, o7, b7⟩
 have bk7 := btr bk6 b7 bk6.size
 have o7 := o7.low (Nat.le_trans hqW bk6.size)
 obtain ⟨a7, ha7⟩ : ∃ a, a5 ++ attrB 64 3 (b32 nx) = a := ⟨_, rfl⟩
 have Kl7 : a7.length ≤ 9000 := by rw [← ha7]; exact by have h1 := attrB_len 64 3 (b32 nx); have h2 := b32_len nx; have h3 := Kl5; rw [List.length_append]; omega
 have E7 := Lib.hid ha7
 rw [ha7] at o7
 clear ha7 x2 o60 o6
 have X_7 := hX.below bk7 hXl
 have x3 : w7.cell? ⟨q, 3, none⟩ = some (.int .i64 md) := X_7.cell 3
 obtain ⟨a9, ha9⟩ : ∃ a, a7 ++ onlyIf (decide (0 ≤ md)) (attrB 128 4 (b32 (md % 4294967296))) = a := ⟨_, rfl⟩
 have Kl9 : a9.length ≤ 12000 := by rw [← ha9]; exact only_len Kl7 (by rw [b32_len]; omega)
 have E9 := Lib.hid ha9
 go_upto_if 35 with fail
 go_cut [6] (fun s6 wx => ∃ (A : Option Addr) (n c : Nat), s6 = .slice A n c ∧ OB wx 5 q A n c a9 ∧ Below W.heap.size W wx)
 case first =>
  by_cases h0 : 0 ≤ md
  case neg =>
   have t0 : decide (0 ≤ md) = false := decide_eq_false h0
   go_wp2_with fail
   go_meet
   exact ⟨A7, n7, c7, rfl, by rw [← ha9, t0]; simpa [onlyIf] using o7, bk7⟩
  have t0 : decide (0 ≤ md) = true := decide_eq_true h0
  have hmb : md ≤ 4294967295 := HNB.out.1.2
  have hmw : IntKind.u32.wrap md = md := by rw [IntKind.wrap_u32]; omega
  have hmm : md % 4294967296 = md := by omega
  have HM := Lib.hid (And.intro h0 (show md < 4294967296 by omega))
  clear h0 hmb
  go_wp2_with fail
  refine (HP32.out md _ HM.out.1 HM.out.2).mono ?_
  rintro _ w70 ⟨A71, n71, c71, rfl, o71, b70⟩
  have bk70 := btr bk7 b70 bk7.size
  obtain ⟨A70, n70, c70, hA70⟩ : ∃ A n c, A = A7 ∧ n = n7 ∧ c = c7 := ⟨_, _, _, rfl, rfl, rfl⟩
  obtain ⟨rfl, rfl, rfl⟩ := hA70
  have o70 := o7.below b70
  go_wp2_with fail
  refine (refAttr04 A70 n70 c70 a7 128 4 A71 n71 c71 (b32 md) w70 o70.bs (o71.bs) (by omega) (by omega) (by omega) (by omega) (by have := Kl7; omega) (by have := (show (b32 md).length ≤ 2000 by rw [b32_len]; omega); omega)).mono ?_
  rintro _ w72 ⟨A72, n72, c72, rfl, o72, b72⟩
  have bk72 := btr bk70 b72 bk70.size
  have o72 := o72.low (Nat.le_trans hqW bk70.size)
  go_wp2_with fail
  go_meet
  exact ⟨A72, n72, c72, rfl, by rw [← ha9, t0, hmm]; exact o72, bk72⟩
 case rest =>
  obtain ⟨A9, n9, c9, rfl, o9, bk9⟩ := hcut
  obtain ⟨w9, hw9⟩ : ∃ x, x = wc := ⟨_, rfl⟩
  subst hw9
  clear ha9
  have X_9 := hX.below bk9 hXl
  have x4 : w9.cell? ⟨q, 4, none⟩ = some (.int .i64 pf) := X_9.cell 4
  obtain ⟨a11, ha11⟩ : ∃ a, a9 ++ onlyIf (decide (0 ≤ pf)) (attrB 64 5 (b32 (pf % 4294967296))) = a := ⟨_, rfl⟩
  have Kl11 : a11.length ≤ 15000 := by rw [← ha11]; exact only_len Kl9 (by rw [b32_len]; omega)
  have E11 := Lib.hid ha11
  go_upto_if 44 with fail
  go_cut [6] (fun s6 wx => ∃ (A : Option Addr) (n c : Nat), s6 = .slice A n c ∧ OB wx 5 q A n c a11 ∧ Below W.heap.size W wx)
  case first =>
   by_cases h0 : 0 ≤ pf
   case neg =>
    have t0 : decide (0 ≤ pf) = false := decide_eq_false h0
    go_wp2_with fail
    go_meet
    exact ⟨A9, n9, c9, rfl, by rw [← ha11, t0]; simpa [onlyIf] using o9, bk9⟩
   have t0 : decide (0 ≤ pf) = true := decide_eq_true h0
   have hmb : pf ≤ 4294967295 := HNB.out.2.2
   have hmw : IntKind.u32.wrap pf = pf := by rw [IntKind.wrap_u32]; omega
   have hmm : pf % 4294967296 = pf := by omega
   have HM := Lib.hid (And.intro h0 (show pf < 4294967296 by omega))
   clear h0 hmb
   go_wp2_with fail
   refine (HP32.out pf _ HM.out.1 HM.out.2).mono ?_
   rintro _ w90 ⟨A91, n91, c91, rfl, o91, b90⟩
   have bk90 := btr bk9 b90 bk9.size
   obtain ⟨A90, n90, c90, hA90⟩ : ∃ A n c, A = A9 ∧ n = n9 ∧ c = c9 := ⟨_, _, _, rfl, rfl, rfl⟩
   obtain ⟨rfl, rfl, rfl⟩ := hA90
   have o90 := o9.below b90
   go_wp2_with fail
   refine (refAttr04 A90 n90 c90 a9 64 5 A91 n91 c91 (b32 pf) w90 o90.bs (o91.bs) (by omega) (by omega) (by omega) (by omega) (by have := Kl9; omega) (by have := (show (b32 pf).length ≤ 2000 by rw [b32_len]; omega); omega)).mono ?_
   rintro _ w92 ⟨A92, n92, c92, rfl, o92, b92⟩
   have bk92 := btr bk90 b92 bk90.size
   have o92 := o92.low (Nat.le_trans hqW bk90.size)
   go_wp2_with fail
   go_meet
   exact ⟨A92, n92, c92, rfl, by rw [← ha11, t0, hmm]; exact o92, bk92⟩
  case rest =>
   obtain ⟨A11, n11, c11, rfl, o11, bk11⟩ := hcut
   obtain ⟨w11, hw11⟩ : ∃ x, x = wc := ⟨_, rfl⟩
   subst hw11
   clear ha11
   have X_11 := hX.below bk11 hXl
   have x5 : w11.cell? ⟨q, 5, none⟩ = some (.bool at_) := X_11.cell 5
   obtain ⟨a13, ha13⟩ : ∃ a, a11 ++ onlyIf at_ (attrB 64 6 ([])) = a := ⟨_, rfl⟩
   have Kl13 : a13.length ≤ 18000 := by rw [← ha13]; exact only_len Kl11 (by simp)
   have E13 := Lib.hid ha13
   go_upto_if 52 with fail
   go_cut [6] (fun s6 wx => ∃ (A : Option Addr) (n c : Nat), s6 = .slice A n c ∧ OB wx 5 q A n c a13 ∧ Below W.heap.size W wx)
   case first =>
    cases at_
    ·skip
     go_wp2_with fail
     go_meet
     exact ⟨A11, n11, c11, rfl, by rw [← ha13]; simpa [onlyIf] using o11, bk11⟩
    ·skip
     go_wp2_with fail
     refine (refAttr04 A11 n11 c11 a11 64 6 none 0 0 ([]) w11 o11.bs (⟨rfl, Reads.none_⟩) (by omega) (by omega) (by omega) (by omega) (by have := Kl11; omega) (by have := (show ([] : List UInt8).length ≤ 2000 by simp); omega)).mono ?_
     rintro _ w12 ⟨A12, n12, c12, rfl, o12, b12⟩
     have bk12 := btr bk11 b12 bk11.size
     have o12 := o12.low (Nat.le_trans hqW bk11.size)
     go_wp2_with fail
     go_meet
     exact ⟨A12, n12, c12, rfl, by rw [← ha13]; exact o12, bk12⟩
   case rest =>
    obtain ⟨A13, n13, c13, rfl, o13, bk13⟩ := hcut
    obtain ⟨w13, hw13⟩ : ∃ x, x = wc := ⟨_, rfl⟩
    subst hw13
    clear ha13
    have X_13 := hX.below bk13 hXl
    have x6 : w13.cell? ⟨q, 6, none⟩ = some (.bool ha) := X_13.cell 6
    obtain ⟨a15, ha15⟩ : ∃ a, a13 ++ onlyIf ha (attrB 192 7 (asB true gs ++ b32 ga)) = a := ⟨_, rfl⟩
    have Kl15 : a15.length ≤ 21000 := by rw [← ha15]; exact only_len Kl13 (by rw [List.length_append, b32_len]; have := asB_len true gs; omega)
    have E15 := Lib.hid ha15
    go_upto_if 56 with fail
    go_cut [6] (fun s6 wx => ∃ (A : Option Addr) (n c : Nat), s6 = .slice A n c ∧ OB wx 5 q A n c a15 ∧ Below W.heap.size W wx)
    case first =>
     cases ha
     ·skip
      go_wp2_with fail
      go_meet
      exact ⟨A13, n13, c13, rfl, by rw [← ha15]; simpa [onlyIf] using o13, bk13⟩
     ·skip
      have X_13 := hX.below bk13 hXl
      have x7 : w13.cell? ⟨q, 7, none⟩ = some (.int .u32 gs) := X_13.cell 7
      go_wp2_with fail
      refine (HP32.out gs _ HWG.out.1 HWG.out.2).mono ?_
      rintro _ w14 ⟨A14a, n14a, c14a, rfl, o14x, b14⟩
      have o14a : OB w14 5 w13.heap.size A14a n14a c14a (asB true gs) := o14x
      clear x7
      have bk14 := btr bk13 b14 bk13.size
      obtain ⟨A14, n14, c14, hA14⟩ : ∃ A n c, A = A13 ∧ n = n13 ∧ c = c13 := ⟨_, _, _, rfl, rfl, rfl⟩
      obtain ⟨rfl, rfl, rfl⟩ := hA14
      have o14 := o13.below b14
      have X_14 := hX.below bk14 hXl
      have x8 : w14.cell? ⟨q, 8, none⟩ = some (.int .u32 ga) := X_14.cell 8
      go_wp2_with fail
      refine (ref01Put32 A14a n14a c14a (asB true gs) ga _ o14a.bs (by have := asB_len true gs; omega) HWA.out.1 HWA.out.2).mono ?_
      rintro _ w16 ⟨A16a, n16a, c16a, rfl, o16a, b16⟩
      clear x8
      have bk16 := btr bk14 b16 bk14.size
      obtain ⟨A16, n16, c16, hA16⟩ : ∃ A n c, A = A14 ∧ n = n14 ∧ c = c14 := ⟨_, _, _, rfl, rfl, rfl⟩
      obtain ⟨rfl, rfl, rfl⟩ := hA16
      have o16 := o14.below b16
      go_wp2_with fail
      refine (refAttr04 A16 n16 c16 a13 192 7 A16a n16a c16a (asB true gs ++ b32 ga) w16 o16.bs (o16a.bs) (by omega) (by omega) (by omega) (by omega) (by have := Kl13; omega) (by have := (show (asB true gs ++ b32 ga).length ≤ 2000 by rw [List.length_append, b32_len]; have := asB_len true gs; omega); omega)).mono ?_
      rintro _ w17 ⟨A17, n17, c17, rfl, o17, b17⟩
      have bk17 := btr bk16 b17 bk16.size
      have o17 := o17.low (Nat.le_trans hqW bk16.size)
      go_wp2_with fail
      go_meet
      exact ⟨A17, n17, c17, rfl, by rw [← ha15]; exact o17, bk17⟩
    case rest =>
     obtain ⟨A15, n15, c15, rfl, o15, bk15⟩ := hcut
     obtain ⟨w15, hw15⟩ : ∃ x, x = wc := ⟨_, rfl⟩
     subst hw15
     clear ha15
     have HCL := Lib.hid (show (comms.flatMap b32).length ≤ 2000 ∧ comms.length ≤ 32 by have h1 := b32_flat comms; have h2 : comms.length ≤ 32 := HRG.out.2.2.2.2.2.1; omega)
     have X_15 := hX.below bk15 hXl
     have x9 : w15.cell? ⟨q, 9, none⟩ = some (.slice A1 n1 c1) := X_15.cell 9
     obtain ⟨dc, hdc⟩ : ∃ d, decide (0 < n1) = d := ⟨_, rfl⟩
     have hdc' : decide ((0 : Int) < (n1 : Int)) = dc := by rw [← hdc]; exact decide_eq_decide.2 (by omega)
     have HDC := Lib.hid hdc
     obtain ⟨a21, ha21⟩ : ∃ a, a15 ++ onlyIf (decide (0 < comms.length)) (attrB 192 8 (comms.flatMap b32)) = a := ⟨_, rfl⟩
     have Kl21 : a21.length ≤ 24000 := by rw [← ha21]; exact only_len Kl15 (HCL.out.1)
     have E21 := Lib.hid ha21
     go_upto_if 81 with fail
     go_cut [6] (fun s6 wx => ∃ (A : Option Addr) (n c : Nat), s6 = .slice A n c ∧ OB wx 5 q A n c a21 ∧ Below W.heap.size W wx)
     case first =>
      cases dc
      case false =>
       have HD := Lib.hid (show decide (0 < comms.length) = false by rw [← HC.out]; exact HDC.out)
       clear hdc hdc'
       go_wp2_with fail
       go_meet
       exact ⟨A15, n15, c15, rfl, by rw [← ha21, HD.out]; simpa [onlyIf] using o15, bk15⟩
      have HD := Lib.hid (show decide (0 < comms.length) = true by rw [← HC.out]; exact HDC.out)
      clear hdc hdc'
      have hzq := Lib.hid (show q ≤ w15.heap.size from Nat.le_trans hqW bk15.size)
      go_wp2_with fail
      go_loopw [8, 9] (fun x i wr => ∃ (j : Nat) (A5 : Option Addr) (n5 c5 : Nat), j ≤ n1 ∧ i = .int .i64 j ∧ x = .slice A5 n5 c5 ∧ OB wr 5 w15.heap.size A5 n5 c5 ((comms.take j).flatMap b32) ∧ Below w15.heap.size w15 wr) (fun _ i _ => n1 - (intOf i).toNat)
      case atStart => exact ⟨0, none, 0, 0, by omega, rfl, rfl, OB.nil_, Below.refl _ _⟩
      case round =>
       obtain ⟨j, A5, n5, c5, hj, rfl, rfl, o5, b16⟩ := hrel
       have bkr := btr bk15 b16 bk15.size
       have X_r := hX.below bkr hXl
       have x9 : wr.cell? ⟨q, 9, none⟩ = some (.slice A1 n1 c1) := X_r.cell 9
       by_cases hlt : j < n1
       case pos =>
        have d1 : decide ((j : Int) < n1) = true := decide_eq_true (by omega)
        have d1' : decide (j < n1) = true := decide_eq_true hlt
        have hlti : (j : Int) < n1 := by omega
        have hj0 : (0 : Int) ≤ (j : Int) := by omega
        obtain ⟨y, hy⟩ : ∃ y, comms[j]? = some y := ⟨_, List.getElem?_eq_getElem (by have := HC.out; omega)⟩
        have hcr := HCK.out _ bkr
        obtain ⟨b, off, rfl, hbl, k0⟩ := hcr.at_ hy
        obtain ⟨hy0, hy1⟩ := hcr.wf_ hy
        have HY := Lib.hid (b32_take hy)
        have HYB := Lib.hid (show 0 ≤ y ∧ y < 4294967296 by omega)
        have HLN := Lib.hid (show ((comms.take j).flatMap b32).length ≤ 100000 by have h1 := b32_flat (comms.take j); have h2 := HCL.out.2; rw [List.length_take] at h1; omega)
        have wj : IntKind.i64.wrap ((j : Int) + 1) = (j : Int) + 1 := IntWalk.i64_in _ ⟨by omega, by have h1 := HCL.out.2; have h2 := HC.out; omega⟩
        clear hy hy0 hy1 hcr
        go_wp2_with fail
        refine (ref01Put32 A5 n5 c5 _ y _ o5.bs (by have := HLN.out; omega) HYB.out.1 HYB.out.2).mono ?_
        rintro _ w6 ⟨A6, n6, c6, rfl, o6, b6⟩
        go_wp2_with fail
        go_roundw
        case rel => exact ⟨j + 1, A6, n6, c6, by omega, by go_num, rfl, by rw [HY.out]; exact o6.low b16.size, btr b16 b6 b16.size⟩
        case measure => simp [intOf]; omega
       have d1 : decide ((j : Int) < n1) = false := decide_eq_false (by omega)
       have d1' : decide (j < n1) = false := decide_eq_false hlt
       have oC : OB wr 5 w15.heap.size A5 n5 c5 (comms.flatMap b32) := by rw [List.take_of_length_le (by have := HC.out; omega)] at o5; exact o5
       obtain ⟨w16, hw16⟩ : ∃ x, x = wr := ⟨_, rfl⟩
       subst hw16
       clear hlt o5 hj bkr X_r
       have bk16 := btr bk15 b16 bk15.size
       obtain ⟨A16, n16, c16, hA16⟩ : ∃ A n c, A = A15 ∧ n = n15 ∧ c = c15 := ⟨_, _, _, rfl, rfl, rfl⟩
       obtain ⟨rfl, rfl, rfl⟩ := hA16
       have o16 := o15.below b16
       go_wp2_with fail
       refine (refAttr04 A16 n16 c16 a15 192 8 A5 n5 c5 (comms.flatMap b32) w16 o16.bs (oC.bs) (by omega) (by omega) (by omega) (by omega) (by have := Kl15; omega) (by have := (HCL.out.1); omega)).mono ?_
       rintro _ w17 ⟨A17, n17, c17, rfl, o17, b17⟩
       have bk17 := btr bk16 b17 bk16.size
       have o17 := o17.low (Nat.le_trans hqW bk16.size)
       go_wp2_with fail
       go_meet
       exact ⟨A17, n17, c17, rfl, by rw [← ha21, HD.out]; exact o17, bk17⟩
     case rest =>
      obtain ⟨A21, n21, c21, rfl, o21, bk21⟩ := hcut
      obtain ⟨w21, hw21⟩ : ∃ x, x = wc := ⟨_, rfl⟩
      subst hw21
      clear ha21
      go_wp2_with fail
      go_loopw [6, 10] (fun x i wr => ∃ (j : Nat) (A0 : Option Addr) (n0 c0 : Nat) (acc : List UInt8), j ≤ n2 ∧ i = .int .i64 j ∧ x = .slice A0 n0 c0 ∧ OB wr 5 q A0 n0 c0 acc ∧ Below W.heap.size W wr ∧ Hid (acc = a21 ++ (raws.take j).flatMap (fun x => attrB x.1 x.2.1 x.2.2)) ∧ Hid (acc.length ≤ 24000 + 3000 * j)) (fun _ i _ => n2 - (intOf i).toNat)
      case atStart => exact ⟨0, A21, n21, c21, a21, by omega, rfl, rfl, o21, bk21, Lib.hid (by simp), Lib.hid (by have := Kl21; omega)⟩
      case round =>
       obtain ⟨j, A0, n0, c0, acc, hj, rfl, rfl, o0, bkr, HAC, HAL⟩ := hrel
       have X_r := hX.below bkr hXl
       have x10 : wr.cell? ⟨q, 10, none⟩ = some (.slice A2 n2 c2) := X_r.cell 10
       by_cases hlt : j < n2
       case pos =>
        have d1 : decide ((j : Int) < n2) = true := decide_eq_true (by omega)
        have d1' : decide (j < n2) = true := decide_eq_true hlt
        have hlti : (j : Int) < n2 := by omega
        have hj0 : (0 : Int) ≤ (j : Int) := by omega
        have hj8 : n2 ≤ 8 := by have h1 : raws.length ≤ 8 := HRG.out.2.2.2.2.2.2.2; have := HN.out; omega
        obtain ⟨x, hx⟩ := getL HN.out hlt
        have hdr := HDK.out wr bkr
        obtain ⟨b, off, A6, n6, c6, rfl, hbl, k0, k1, k2, hbf, hnc6, wf0, wf1⟩ := hdr.rawAt hx
        have hbl : b < wr.heap.size := hbl
        have HTA := Lib.hid (raws_take hx)
        have HGD := Lib.hid (good_raw HRG.out.2.2.2.2.2.2.1 hx)
        obtain ⟨fl, ty, dat⟩ := x
        simp only at k0 k1
        have wj : IntKind.i64.wrap ((j : Int) + 1) = (j : Int) + 1 := IntWalk.i64_in _ ⟨by omega, by omega⟩
        have hbs : BS wr.drew wr.drew.heap.size A6 n6 dat := hbf.lt
        have hod : OB wr.drew 5 q A0 n0 c0 acc := o0
        have HFL := Lib.hid (show fl = 224 from HGD.out.1)
        have HVL := Lib.hid (show (attrB fl ty dat).length ≤ 3000 by have h1 := attrB_len fl ty dat; have h : dat.length ≤ 64 := HGD.out.2.2.2.1; omega)
        have hqd : q < wr.drew.heap.size := X_r.lt
        have hbd : b < wr.drew.heap.size := hbl
        have ct : wr.drew.cell? ⟨q, 10, none⟩ = some (.slice (some ⟨b, off, none⟩) n2 c2) ∧ wr.drew.cell? ⟨b, off + j * 3 + 1, none⟩ = some (.int .i64 ty) ∧ wr.drew.cell? ⟨b, off + j * 3 + 2, none⟩ = some (.slice A6 n6 c6) := ⟨x10, k1, k2⟩
        clear hx hbf wf0 wf1 hnc6 hdr
        go_upto_region 30 with fail
        clear k0 k1 k2 x10
        rename_i hk
        have HKK := Lib.hid hk
        clear hk
        refine wp_region_held_drew (S := (fun w' => w'.cell? ⟨q, 10, none⟩ = some (.slice (some ⟨b, off, none⟩) n2 c2) ∧ w'.cell? ⟨b, off + j * 3 + 1, none⟩ = some (.int .i64 ty) ∧ w'.cell? ⟨b, off + j * 3 + 2, none⟩ = some (.slice A6 n6 c6))) (by kernel_rfl) ?_ (fun hHeld => ?_)
        ·first | exact ct | exact ct5
        refine tkh 0 (h := ?_)
        try simp only [Act.put, q1, q2, q3, q4, q5, q6]
        refine tkh 1 (h := ?_)
        try simp only [Act.put, q1, q2, q3, q4, q5, q6]
        refine tkh 2 (h := ?_)
        try simp only [Act.put, q1, q2, q3, q4, q5, q6]
        refine tkh 3 (h := ?_)
        try simp only [Act.put, q1, q2, q3, q4, q5, q6]
        refine tkh 4 (h := ?_)
        try simp only [Act.put, q1, q2, q3, q4, q5, q6]
        refine tkh 5 (h := ?_)
        try simp only [Act.put, q1, q2, q3, q4, q5, q6]
        refine tkh 6 (h := ?_)
        try simp only [Act.put, q1, q2, q3, q4, q5, q6]
        refine tkh 7 (h := ?_)
        try simp only [Act.put, q1, q2, q3, q4, q5, q6]
        refine tkh 8 (h := ?_)
        try simp only [Act.put, q1, q2, q3, q4, q5, q6]
        refine tkh 9 (h := ?_)
        try simp only [Act.put, q1, q2, q3, q4, q5, q6]
        refine tkh 10 (h := ?_)
        try simp only [Act.put, q1, q2, q3, q4, q5, q6]
        refine tkh 11 (h := ?_)
        try simp only [Act.put, q1, q2, q3, q4, q5, q6]
        refine tkh 12 (h := ?_)
        try simp only [Act.put, q1, q2, q3, q4, q5, q6]
        refine wpAnyH_ready (rs := [13]) (by kernel_rfl) (by simp) ?_
        refine AllReadyH.cons rfl (fun K hK => ?_) AllReadyH.nil
        go_simp
        go_wp2_with (go_at_call 138; refine (refAttr04 A0 n0 c0 acc 224 ty A6 n6 c6 dat _ hod.bs hbs (by omega) (by omega) HGD.out.2.1 HGD.out.2.2.1 (by have h1 := HAL.out; omega) (by have h : dat.length ≤ 64 := HGD.out.2.2.2.1; omega)).mono ?_; rintro _ w30 ⟨A30, n30, c30, rfl, o30, b30⟩; have ct5 := And.intro ((b30.cell (p := ⟨q, 10, none⟩) hqd).trans ct.1) (And.intro ((b30.cell (p := ⟨b, off + j * 3 + 1, none⟩) hbd).trans ct.2.1) ((b30.cell (p := ⟨b, off + j * 3 + 2, none⟩) hbd).trans ct.2.2)))
        refine hK.out _ _ ?_ (fun hHeld => ?_)
        ·try dsimp only
         first | exact ct | exact ct5
        clear hK K
        refine wpAnyH_ready (rs := [14]) (by kernel_rfl) (by simp) ?_
        refine AllReadyH.cons rfl (fun K hK => ?_) AllReadyH.nil
        go_simp
        go_wp2_with (fail)
        refine hK.out _ _ ?_ (fun hHeld => ?_)
        ·try dsimp only
         first | exact ct | exact ct5
        clear hK K
        refine wpAnyH_done (by kernel_rfl) ?_ _
        refine HKK.out _ _ ?_
        have HNX := Lib.hid (show acc ++ attrB 224 ty dat = a21 ++ (raws.take (j + 1)).flatMap (fun x => attrB x.1 x.2.1 x.2.2) by rw [HTA.out, HAC.out, List.append_assoc, HFL.out])
        have HNL := Lib.hid (show (acc ++ attrB 224 ty dat).length ≤ 24000 + 3000 * (j + 1) by have h1 := HAL.out; have h2 := HVL.out; rw [HFL.out] at h2; rw [List.length_append]; omega)
        have bkz := btr bkr ((Below.refl wr.heap.size wr).drew.trans b30) bkr.size
        have oz := o30.low (Nat.le_trans hqW bkr.size)
        clear hHeld ct ct5
        go_wp2_with fail
        go_roundw
        case rel => exact ⟨j + 1, A30, n30, c30, _, by omega, by go_num, rfl, oz, bkz, HNX, HNL⟩
        case measure => simp [intOf]; omega
       have d1 : decide ((j : Int) < n2) = false := decide_eq_false (by omega)
       have d1' : decide (j < n2) = false := decide_eq_false hlt
       have E24 := Lib.hid (show acc = a21 ++ raws.flatMap (fun x => attrB x.1 x.2.1 x.2.2) by have := HAC.out; rwa [List.take_of_length_le (by have := HN.out; omega)] at this)
       have Kl24 : acc.length ≤ 48000 := by have h1 := HAL.out; have h2 : raws.length ≤ 8 := HRG.out.2.2.2.2.2.2.2; have := HN.out; omega
       obtain ⟨w24, hw24⟩ : ∃ w', w' = wr := ⟨_, rfl⟩
       subst hw24
       obtain ⟨A24, n24, c24, h24⟩ : ∃ A n c, A = A0 ∧ n = n0 ∧ c = c0 := ⟨_, _, _, rfl, rfl, rfl⟩
       obtain ⟨rfl, rfl, rfl⟩ := h24
       have o24 := o0
       have bk24 := bkr
       clear hlt hj o0 bkr X_r
       have X_24 := hX.below bk24 hXl
       have x1 : w24.cell? ⟨q, 1, none⟩ = some (.slice A n c) := X_24.cell 1
       go_wp2_with fail
       refine (refFlat03 A n c path _ (HPK.out _ bk24) (by omega) hs).mono ?_
       rintro _ w25 ⟨Af, nf, cf, rfl, of_, b25⟩
       have HNF := Lib.hid of_.1
       have hnf := of_.ns
       have HFB := Lib.hid (show nf ≤ 64 by have h1 := of_.1; have h2 := flatA_len path; have h3 : sumN path ≤ 64 := (rightA_of HRG.out.2.1).2.1; omega)
       clear of_ x1 x10
       have bk25 := btr bk24 b25 bk24.size
       obtain ⟨A25, n25, c25, hA25⟩ : ∃ A n c, A = A24 ∧ n = n24 ∧ c = c24 := ⟨_, _, _, rfl, rfl, rfl⟩
       obtain ⟨rfl, rfl, rfl⟩ := hA25
       have o25 := o24.below b25
       go_wp2_with fail
       go_loopw [11, 13] (fun x i wr => ∃ (j : Nat) (bb : Bool), j ≤ nf ∧ i = .int .i64 j ∧ x = .bool bb ∧ wr = w25 ∧ Hid (bb = bigN ((flatA path).take j))) (fun _ i _ => nf - (intOf i).toNat)
       case atStart => exact ⟨0, false, by omega, rfl, rfl, rfl, Lib.hid (by simp [bigN])⟩
       case round =>
        obtain ⟨j, bb, hj, rfl, rfl, rfl, HBB⟩ := hrel
        by_cases hlt : j < nf
        case pos =>
         have d2 : decide ((j : Int) < nf) = true := decide_eq_true (by omega)
         have d2' : decide (j < nf) = true := decide_eq_true hlt
         have hlti : (j : Int) < nf := by omega
         have hj0 : (0 : Int) ≤ (j : Int) := by omega
         obtain ⟨y, hy⟩ : ∃ y, (flatA path)[j]? = some y := ⟨_, List.getElem?_eq_getElem (by have := HNF.out; omega)⟩
         obtain ⟨b, off, rfl, hbw, hcw⟩ := hnf.form hlt
         rw [hy, Option.getD_some] at hcw
         have HST := Lib.hid (show bigN ((flatA path).take (j + 1)) = (bb || decide (65535 < y)) by
          rw [List.take_succ_eq_append_getElem (List.getElem?_eq_some_iff.1 hy).1, (List.getElem?_eq_some_iff.1 hy).2, HBB.out]
          unfold bigN
          rw [List.any_append]
          simp)
         have wj : IntKind.i64.wrap ((j : Int) + 1) = (j : Int) + 1 := IntWalk.i64_in _ ⟨by omega, by have h1 := HFB.out; omega⟩
         clear hy
         cases bb
         ·obtain ⟨r, hr⟩ : ∃ r, decide (65535 < y) = r := ⟨_, rfl⟩
          have HSN := Lib.hid (show r = bigN ((flatA path).take (j + 1)) by rw [HST.out, hr]; rfl)
          go_wp2_with fail
          go_roundw
          case rel => exact ⟨j + 1, r, by omega, by go_num, (by first | rfl | rw [hr]), (by first | rfl | trivial), HSN⟩
          case measure => simp [intOf]; omega
         ·have HSN := Lib.hid (show true = bigN ((flatA path).take (j + 1)) by rw [HST.out]; rfl)
          go_wp2_with fail
          go_roundw
          case rel => exact ⟨j + 1, true, by omega, by go_num, rfl, (by first | rfl | trivial), HSN⟩
          case measure => simp [intOf]; omega
        have d2 : decide ((j : Int) < nf) = false := decide_eq_false (by omega)
        have d2' : decide (j < nf) = false := decide_eq_false hlt
        have HBN := Lib.hid (show bigN (flatA path) = bb by have := HBB.out; rw [List.take_of_length_le (by have := HNF.out; omega)] at this; exact this.symm)
        obtain ⟨w26, hw26⟩ : ∃ w', w' = wr := ⟨_, rfl⟩
        subst hw26
        obtain ⟨A26, n26, c26, h26⟩ : ∃ A n c, A = A25 ∧ n = n25 ∧ c = c25 := ⟨_, _, _, rfl, rfl, rfl⟩
        obtain ⟨rfl, rfl, rfl⟩ := h26
        have o26 := o25
        have bk26 := bk25
        clear hlt hj o24 o25 b25 hnf
        obtain ⟨bg, hbg⟩ : ∃ bg, decide (65535 < gs) = bg := ⟨_, rfl⟩
        have HBG := Lib.hid hbg
        obtain ⟨a28, ha28⟩ : ∃ a, acc ++ onlyIf false (attrB 192 17 (putA true path)) = a := ⟨_, rfl⟩
        have E28 := Lib.hid ha28
        have Kl28 : a28.length ≤ 51000 := by rw [← ha28]; exact only_len Kl24 HPL.out.2
        have o26 : OB w26 5 q A26 n26 c26 a28 := by rw [← ha28, only_no]; exact o26
        clear ha28
        have X_26 := hX.below bk26 hXl
        have x7 : w26.cell? ⟨q, 7, none⟩ = some (.int .u32 gs) := X_26.cell 7
        have x8 : w26.cell? ⟨q, 8, none⟩ = some (.int .u32 ga) := X_26.cell 8
        obtain ⟨a32, ha32⟩ : ∃ a, a28 ++ onlyIf false (attrB 192 18 (b32 gs ++ b32 ga)) = a := ⟨_, rfl⟩
        have E32 := Lib.hid ha32
        have o32 : OB w26 5 q A26 n26 c26 a32 := by rw [← ha32, only_no]; exact o26
        clear ha32
        have HAL2 := Lib.hid (show attsB true (⟨o, path, nx, md, pf, at_, ha, gs, ga, comms, raws⟩ : At) = a32 by
         rw [← E32.out, ← E28.out, E24.out, ← E21.out, ← E15.out, ← E13.out, ← E11.out, ← E9.out, ← E7.out, ← E5.out, ← E3.out]
         unfold attsB
         simp only [HBN.out, HBG.out]
         simp [onlyIf])
        go_wp2_with fail
        go_ret2
        exact ⟨A26, n26, c26, by rw [HP.out]; rfl, by rw [HP.out, HAL2.out]; exact o32.low (Nat.le_of_eq HQ.out), btr hBW.out bk26 hBW.out.size⟩
end Go.Proofs.YthgjknmfghjioaaGreatDoor
namespace Go.Proofs.YthgjknmfghjioaaGreatDoor
open Go.RowKit
set_option linter.unusedSimpArgs false
set_option linter.unusedVariables false
end Go.Proofs.YthgjknmfghjioaaGreatDoor

namespace Go.Proofs.YthgjknmfghjioaaGreatDoor
open Go.RowKit
set_option linter.unusedSimpArgs false
set_option linter.unusedVariables false
def listP (l : List Pfx) : List UInt8 × Bool := if l.all okQ = true then (pfxB l, true) else ([], false)
def RetL (w : World) (l : List UInt8) (x : Bool) (e : Ending) (w' : World) : Prop := ∃ (A : Option Addr) (n c : Nat), e = .returned (.tuple #[.slice A n c, .bool x]) ∧ OB w' 5 w.heap.size A n c l ∧ Below w.heap.size w w'
theorem ref02PutY (A : Option Addr) (n c : Nat) (l : List UInt8) (p : Pfx) (ha : p.1 < 4294967296) (w : World) (h : BS w w.heap.size A n l) (hn : n ≤ 100000) (hr : okQ p = true) :
  Calls Tryz.prog 137 #[.slice A n c, .agg #[.int .u32 (p.1 : Int), .int .i64 p.2]] w (RetPut w (l ++ pB p) 0) := by
 obtain ⟨k, hk, h32, _⟩ := okQ_of hr
 obtain ⟨a, m⟩ := p
 simp only at hk ha
 subst hk
 have := ref02Put_yes A n c l a ha k h32 w h hn hr
 unfold pB
 exact this
theorem ref02PutN (A : Option Addr) (n c : Nat) (p : Pfx) (ha : p.1 < 4294967296) (w : World) (hr : okQ p = false) :
  Calls Tryz.prog 137 #[.slice A n c, .agg #[.int .u32 (p.1 : Int), .int .i64 p.2]] w (RetPut w [] 1) := ref02Put_no A n c p.1 ha p.2 w hr
set_option maxHeartbeats 2000000 in
set_option maxRecDepth 100000 in
theorem refList05 (A : Option Addr) (n c : Nat) (l : List Pfx) (w : World) (hd : DL rPfx 2 w (Lo w) A n l) (hn : n ≤ 10000) :
  Calls Tryz.prog 83 #[.slice A n c] w (RetL w (listP l).1 (listP l).2) := by
 have HN := Lib.hid hd.len
 go_enter Tryz.func83, Tryz.ntmps83
 go_wp2_with fail
 go_loopw [4, 5] (fun o i wr => ∃ (j : Nat) (A1 : Option Addr) (m1 c1 : Nat), j ≤ n ∧ i = .int .i64 j ∧ o = .slice A1 m1 c1 ∧ OB wr 5 w.heap.size A1 m1 c1 (pfxB (l.take j)) ∧ Hid ((l.take j).all okQ = true) ∧ Below w.heap.size w wr) (fun _ i _ => n - (intOf i).toNat)
 case atStart => exact ⟨0, none, 0, 0, by omega, rfl, rfl, by simpa [pfxB] using OB.nil_, Lib.hid (by simp), Below.refl _ _⟩
 case round =>
  obtain ⟨j, A1, m1, c1, hj, rfl, rfl, o1, HK, hb⟩ := hrel
  by_cases hlt : j < n
  ·obtain ⟨p, hp⟩ : ∃ p, l[j]? = some p := ⟨_, List.getElem?_eq_getElem (by have := HN.out; omega)⟩
   have e2 : decide ((j : Int) < n) = true := decide_eq_true (by omega)
   obtain ⟨b, off, rfl, hbl, k0, k1, hpa, hpw⟩ := (hd.keep rPfx_ok (Kp.call hb)).pfxAt hp
   have wj : IntKind.i64.wrap ((j : Int) + 1) = (j : Int) + 1 := IntWalk.i64_in _ ⟨by omega, by omega⟩
   have HT := Lib.hid (pfxB_take hp)
   have HA := Lib.hid (okAll_take hp)
   have HF := Lib.hid (fun h => okAll_not (l := l) hp h)
   have hPl : m1 ≤ 100000 := by
    have h1 := pfxB_len (l.take j)
    have h2 := o1.1
    rw [List.length_take] at h1
    omega
   clear hp
   obtain ⟨P, hP⟩ : ∃ P, pfxB (l.take j) = P := ⟨_, rfl⟩
   rw [hP] at o1 HT
   clear hP
   have o2 := o1.bs
   cases hk : okQ p
   ·have HE := Lib.hid (show listP l = ([], false) by unfold listP; rw [HF.out hk]; rfl)
    go_wp2_with fail
    refine (ref02PutN A1 m1 c1 p hpa _ hk).mono ?_
    rintro _ w2 ⟨A2, n2, c2, rfl, o3, b2⟩
    have b02 := btr hb b2 hb.size
    go_wp2_with fail
    go_ret2
    rw [HE.out]
    exact ⟨none, 0, 0, rfl, OB.nil_, b02⟩
   ·go_wp2_with fail
    refine (ref02PutY A1 m1 c1 P p hpa _ o2 hPl hk).mono ?_
    rintro _ w2 ⟨A2, n2, c2, rfl, o3, b2⟩
    have b02 := btr hb b2 hb.size
    have o4 := o3.low (base' := w.heap.size) hb.size
    have HK2 := Lib.hid (show (l.take (j + 1)).all okQ = true by rw [HA.out, HK.out, hk]; rfl)
    clear o2 o3
    go_wp2_with fail
    go_roundw
    case rel => exact ⟨j + 1, A2, n2, c2, by omega, by go_num, rfl, by rw [HT.out]; exact o4, HK2, b02⟩
    case measure => simp [intOf]; omega
  ·have e2 : decide ((j : Int) < n) = false := decide_eq_false (by omega)
   have HL := Lib.hid (show l.take j = l from List.take_of_length_le (by have := HN.out; omega))
   have HE := Lib.hid (show listP l = (pfxB l, true) by
    have := HK.out
    rw [HL.out] at this
    unfold listP
    rw [if_pos this])
   go_wp2_with fail
   go_ret2
   rw [HE.out]
   exact ⟨A1, m1, c1, rfl, by rw [← HL.out]; exact o1, hb⟩
theorem listP_no {l : List Pfx} (h : l.all okQ = false) : listP l = ([], false) := by unfold listP; rw [if_neg (by rw [h]; decide)]
theorem listP_yes {l : List Pfx} (h : l.all okQ = true) : listP l = (pfxB l, true) := by unfold listP; rw [if_pos h]
theorem refPut04U (wide : Bool) (o : Int) (A : Option Addr) (n c : Nat) (path : List Seg) (nx md pf : Int) (at_ ha : Bool) (gs ga : Int) (A1 : Option Addr) (n1 c1 : Nat) (comms : List Int) (A2 : Option Addr) (n2 c2 : Nat) (raws : List RawV) (w : World) (hp : DL rSeg 2 w (Lo w) A n path) (hc : NF w (Lo w) A1 n1 comms) (hd : DL rRaw 3 w (Lo w) A2 n2 raws) (hn : n ≤ 12) (hs : Hid (sumN path ≤ big32)) (hn2 : n2 ≤ 100000) (hw : Hid (0 ≤ nx ∧ nx < 4294967296 ∧ 0 ≤ gs ∧ gs < 4294967296 ∧ 0 ≤ ga ∧ ga < 4294967296)) :
  Calls Tryz.prog 84 #[.agg #[.int .i64 o, .slice A n c, .int .u32 nx, .int .i64 md, .int .i64 pf, .bool at_, .bool ha, .int .u32 gs, .int .u32 ga, .slice A1 n1 c1, .slice A2 n2 c2], .bool wide] w (RetPE w (putAt wide (⟨o, path, nx, md, pf, at_, ha, gs, ga, comms, raws⟩ : At))) := by
 cases wide
 ·exact refPut04_narrow o A n c path nx md pf at_ ha gs ga A1 n1 c1 comms A2 n2 c2 raws w hp hc hd hn hs hn2 hw
 ·exact refPut04_wide o A n c path nx md pf at_ ha gs ga A1 n1 c1 comms A2 n2 c2 raws w hp hc hd hn hs hn2 hw
set_option maxHeartbeats 4000000 in
set_option maxRecDepth 100000 in
theorem refPut05_g (wide : Bool) (Ag : Option Addr) (ng cg : Nat) (gone : List Pfx) (o : Int) (A : Option Addr) (n c : Nat) (path : List Seg) (nx md pf : Int) (at_ ha : Bool) (gs ga : Int) (A1 : Option Addr) (n1 c1 : Nat) (comms : List Int) (A2 : Option Addr) (n2 c2 : Nat) (raws : List RawV) (An : Option Addr) (nn cn : Nat) (news : List Pfx) (w : World) (hg : DL rPfx 2 w (Lo w) Ag ng gone) (hp : DL rSeg 2 w (Lo w) A n path) (hc : NF w (Lo w) A1 n1 comms) (hd : DL rRaw 3 w (Lo w) A2 n2 raws) (hm : DL rPfx 2 w (Lo w) An nn news) (hs : Hid (sumN path ≤ big32)) (hw : Hid (0 ≤ nx ∧ nx < 4294967296 ∧ 0 ≤ gs ∧ gs < 4294967296 ∧ 0 ≤ ga ∧ ga < 4294967296)) (hz : n ≤ 12 ∧ n2 ≤ 100000 ∧ ng ≤ 10000 ∧ nn ≤ 10000) (hg1 : gone.all okQ = false) :
  Calls Tryz.prog 37 #[.agg #[.slice Ag ng cg, .int .i64 o, .slice A n c, .int .u32 nx, .int .i64 md, .int .i64 pf, .bool at_, .bool ha, .int .u32 gs, .int .u32 ga, .slice A1 n1 c1, .slice A2 n2 c2, .slice An nn cn], .bool wide] w (RetPut w [] 1) := by
 obtain ⟨LM, hLM⟩ : ∃ x, listP news = x := ⟨_, rfl⟩
 have HG := Lib.hid (show ∀ w', DL rPfx 2 w' (Lo w') Ag ng gone → Calls Tryz.prog 83 #[.slice Ag ng cg] w' (RetL w' [] false) from fun w' h => by
  have := refList05 Ag ng cg gone w' h hz.2.2.1
  rw [listP_no hg1] at this
  exact this)
 have HM := Lib.hid (show ∀ w', DL rPfx 2 w' (Lo w') An nn news → Calls Tryz.prog 83 #[.slice An nn cn] w' (RetL w' LM.1 LM.2) from fun w' h => by
  have := refList05 An nn cn news w' h hz.2.2.2
  rw [hLM] at this
  exact this)
 clear hs hw hg1 hLM
 obtain ⟨W, hW, hX, b0⟩ := box1c w #[.slice Ag ng cg, .int .i64 o, .slice A n c, .int .u32 nx, .int .i64 md, .int .i64 pf, .bool at_, .bool ha, .int .u32 gs, .int .u32 ga, .slice A1 n1 c1, .slice A2 n2 c2, .slice An nn cn] 77
 go_enter Tryz.func37, Tryz.ntmps37
 go_upto_region 1 with fail
 try rw [hW]
 obtain ⟨q, hq⟩ : ∃ q, w.heap.size = q := ⟨_, rfl⟩
 try rw [hq]
 rw [hq] at hX
 have HQ := Lib.hid hq
 clear hW hq
 have c_hX0 := hX.cell 0
 have c_hX1 := hX.cell 1
 have c_hX2 := hX.cell 2
 have c_hX3 := hX.cell 3
 have c_hX4 := hX.cell 4
 have c_hX5 := hX.cell 5
 have c_hX6 := hX.cell 6
 have c_hX7 := hX.cell 7
 have c_hX8 := hX.cell 8
 have c_hX9 := hX.cell 9
 have c_hX10 := hX.cell 10
 have c_hX11 := hX.cell 11
 have c_hX12 := hX.cell 12
 go_wp2_with fail
 refine (HG.out _ (hg.pfxB5 b0)).mono ?_
 rintro _ w1 ⟨A3, n3, c3, rfl, o3, b1⟩
 clear c_hX0 c_hX1 c_hX2 c_hX3 c_hX4 c_hX5 c_hX6 c_hX7 c_hX8 c_hX9 c_hX10 c_hX11 c_hX12
 have b01 := btr b0 b1 b0.size
 have hX_1 := hX.below b1 hX.lt
 have c_hX0 := hX_1.cell 0
 have c_hX1 := hX_1.cell 1
 have c_hX2 := hX_1.cell 2
 have c_hX3 := hX_1.cell 3
 have c_hX4 := hX_1.cell 4
 have c_hX5 := hX_1.cell 5
 have c_hX6 := hX_1.cell 6
 have c_hX7 := hX_1.cell 7
 have c_hX8 := hX_1.cell 8
 have c_hX9 := hX_1.cell 9
 have c_hX10 := hX_1.cell 10
 have c_hX11 := hX_1.cell 11
 have c_hX12 := hX_1.cell 12
 have s3 := o3.bs
 go_wp2_with fail
 refine (HM.out _ (hm.pfxB5 b01)).mono ?_
 rintro _ w2 ⟨A4, n4, c4, rfl, o4, b2⟩
 clear c_hX0 c_hX1 c_hX2 c_hX3 c_hX4 c_hX5 c_hX6 c_hX7 c_hX8 c_hX9 c_hX10 c_hX11 c_hX12
 have b02 := btr b01 b2 b01.size
 have hX_2 := hX_1.below b2 hX_1.lt
 clear hX_1
 have s3_2 := s3.call b2
 have c_hX0 := hX_2.cell 0
 have c_hX1 := hX_2.cell 1
 have c_hX2 := hX_2.cell 2
 have c_hX3 := hX_2.cell 3
 have c_hX4 := hX_2.cell 4
 have c_hX5 := hX_2.cell 5
 have c_hX6 := hX_2.cell 6
 have c_hX7 := hX_2.cell 7
 have c_hX8 := hX_2.cell 8
 have c_hX9 := hX_2.cell 9
 have c_hX10 := hX_2.cell 10
 have c_hX11 := hX_2.cell 11
 have c_hX12 := hX_2.cell 12
 go_wp2_with fail
 go_ret2
 exact ⟨none, 0, 0, rfl, OB.nil_, b02⟩
set_option maxHeartbeats 4000000 in
set_option maxRecDepth 100000 in
theorem refPut05_m (wide : Bool) (Ag : Option Addr) (ng cg : Nat) (gone : List Pfx) (o : Int) (A : Option Addr) (n c : Nat) (path : List Seg) (nx md pf : Int) (at_ ha : Bool) (gs ga : Int) (A1 : Option Addr) (n1 c1 : Nat) (comms : List Int) (A2 : Option Addr) (n2 c2 : Nat) (raws : List RawV) (An : Option Addr) (nn cn : Nat) (news : List Pfx) (w : World) (hg : DL rPfx 2 w (Lo w) Ag ng gone) (hp : DL rSeg 2 w (Lo w) A n path) (hc : NF w (Lo w) A1 n1 comms) (hd : DL rRaw 3 w (Lo w) A2 n2 raws) (hm : DL rPfx 2 w (Lo w) An nn news) (hs : Hid (sumN path ≤ big32)) (hw : Hid (0 ≤ nx ∧ nx < 4294967296 ∧ 0 ≤ gs ∧ gs < 4294967296 ∧ 0 ≤ ga ∧ ga < 4294967296)) (hz : n ≤ 12 ∧ n2 ≤ 100000 ∧ ng ≤ 10000 ∧ nn ≤ 10000) (hg1 : gone.all okQ = true) (hm1 : news.all okQ = false) :
  Calls Tryz.prog 37 #[.agg #[.slice Ag ng cg, .int .i64 o, .slice A n c, .int .u32 nx, .int .i64 md, .int .i64 pf, .bool at_, .bool ha, .int .u32 gs, .int .u32 ga, .slice A1 n1 c1, .slice A2 n2 c2, .slice An nn cn], .bool wide] w (RetPut w [] 1) := by
 have HG := Lib.hid (show ∀ w', DL rPfx 2 w' (Lo w') Ag ng gone → Calls Tryz.prog 83 #[.slice Ag ng cg] w' (RetL w' (pfxB gone) true) from fun w' h => by
  have := refList05 Ag ng cg gone w' h hz.2.2.1
  rw [listP_yes hg1] at this
  exact this)
 have HM := Lib.hid (show ∀ w', DL rPfx 2 w' (Lo w') An nn news → Calls Tryz.prog 83 #[.slice An nn cn] w' (RetL w' [] false) from fun w' h => by
  have := refList05 An nn cn news w' h hz.2.2.2
  rw [listP_no hm1] at this
  exact this)
 clear hs hw hg1 hm1
 obtain ⟨W, hW, hX, b0⟩ := box1c w #[.slice Ag ng cg, .int .i64 o, .slice A n c, .int .u32 nx, .int .i64 md, .int .i64 pf, .bool at_, .bool ha, .int .u32 gs, .int .u32 ga, .slice A1 n1 c1, .slice A2 n2 c2, .slice An nn cn] 77
 go_enter Tryz.func37, Tryz.ntmps37
 go_upto_region 1 with fail
 try rw [hW]
 obtain ⟨q, hq⟩ : ∃ q, w.heap.size = q := ⟨_, rfl⟩
 try rw [hq]
 rw [hq] at hX
 have HQ := Lib.hid hq
 clear hW hq
 have c_hX0 := hX.cell 0
 have c_hX1 := hX.cell 1
 have c_hX2 := hX.cell 2
 have c_hX3 := hX.cell 3
 have c_hX4 := hX.cell 4
 have c_hX5 := hX.cell 5
 have c_hX6 := hX.cell 6
 have c_hX7 := hX.cell 7
 have c_hX8 := hX.cell 8
 have c_hX9 := hX.cell 9
 have c_hX10 := hX.cell 10
 have c_hX11 := hX.cell 11
 have c_hX12 := hX.cell 12
 go_wp2_with fail
 refine (HG.out _ (hg.pfxB5 b0)).mono ?_
 rintro _ w1 ⟨A3, n3, c3, rfl, o3, b1⟩
 clear c_hX0 c_hX1 c_hX2 c_hX3 c_hX4 c_hX5 c_hX6 c_hX7 c_hX8 c_hX9 c_hX10 c_hX11 c_hX12
 have b01 := btr b0 b1 b0.size
 have hX_1 := hX.below b1 hX.lt
 have c_hX0 := hX_1.cell 0
 have c_hX1 := hX_1.cell 1
 have c_hX2 := hX_1.cell 2
 have c_hX3 := hX_1.cell 3
 have c_hX4 := hX_1.cell 4
 have c_hX5 := hX_1.cell 5
 have c_hX6 := hX_1.cell 6
 have c_hX7 := hX_1.cell 7
 have c_hX8 := hX_1.cell 8
 have c_hX9 := hX_1.cell 9
 have c_hX10 := hX_1.cell 10
 have c_hX11 := hX_1.cell 11
 have c_hX12 := hX_1.cell 12
 have s3 := o3.bs
 go_wp2_with fail
 refine (HM.out _ (hm.pfxB5 b01)).mono ?_
 rintro _ w2 ⟨A4, n4, c4, rfl, o4, b2⟩
 clear c_hX0 c_hX1 c_hX2 c_hX3 c_hX4 c_hX5 c_hX6 c_hX7 c_hX8 c_hX9 c_hX10 c_hX11 c_hX12
 have b02 := btr b01 b2 b01.size
 have hX_2 := hX_1.below b2 hX_1.lt
 clear hX_1
 have s3_2 := s3.call b2
 have c_hX0 := hX_2.cell 0
 have c_hX1 := hX_2.cell 1
 have c_hX2 := hX_2.cell 2
 have c_hX3 := hX_2.cell 3
 have c_hX4 := hX_2.cell 4
 have c_hX5 := hX_2.cell 5
 have c_hX6 := hX_2.cell 6
 have c_hX7 := hX_2.cell 7
 have c_hX8 := hX_2.cell 8
 have c_hX9 := hX_2.cell 9
 have c_hX10 := hX_2.cell 10
 have c_hX11 := hX_2.cell 11
 have c_hX12 := hX_2.cell 12
 have s4 := o4.bs
 go_wp2_with fail
 go_ret2
 exact ⟨none, 0, 0, rfl, OB.nil_, b02⟩
set_option maxHeartbeats 4000000 in
set_option maxRecDepth 100000 in
theorem refPut05_r (wide : Bool) (Ag : Option Addr) (ng cg : Nat) (gone : List Pfx) (o : Int) (A : Option Addr) (n c : Nat) (path : List Seg) (nx md pf : Int) (at_ ha : Bool) (gs ga : Int) (A1 : Option Addr) (n1 c1 : Nat) (comms : List Int) (A2 : Option Addr) (n2 c2 : Nat) (raws : List RawV) (An : Option Addr) (nn cn : Nat) (news : List Pfx) (w : World) (hg : DL rPfx 2 w (Lo w) Ag ng gone) (hp : DL rSeg 2 w (Lo w) A n path) (hc : NF w (Lo w) A1 n1 comms) (hd : DL rRaw 3 w (Lo w) A2 n2 raws) (hm : DL rPfx 2 w (Lo w) An nn news) (hs : Hid (sumN path ≤ big32)) (hw : Hid (0 ≤ nx ∧ nx < 4294967296 ∧ 0 ≤ gs ∧ gs < 4294967296 ∧ 0 ≤ ga ∧ ga < 4294967296)) (hz : n ≤ 12 ∧ n2 ≤ 100000 ∧ ng ≤ 10000 ∧ nn ≤ 10000) (hg1 : gone.all okQ = true) (hm1 : news.all okQ = true) (hn0 : ¬ news.length = 0) (hr1 : rightAt (⟨o, path, nx, md, pf, at_, ha, gs, ga, comms, raws⟩ : At) = false) :
  Calls Tryz.prog 37 #[.agg #[.slice Ag ng cg, .int .i64 o, .slice A n c, .int .u32 nx, .int .i64 md, .int .i64 pf, .bool at_, .bool ha, .int .u32 gs, .int .u32 ga, .slice A1 n1 c1, .slice A2 n2 c2, .slice An nn cn], .bool wide] w (RetPut w [] 1) := by
 have tz : decide (0 < nn) = true := decide_eq_true (by have := hm.len; omega)
 have HG := Lib.hid (show ∀ w', DL rPfx 2 w' (Lo w') Ag ng gone → Calls Tryz.prog 83 #[.slice Ag ng cg] w' (RetL w' (pfxB gone) true) from fun w' h => by
  have := refList05 Ag ng cg gone w' h hz.2.2.1
  rw [listP_yes hg1] at this
  exact this)
 have HM := Lib.hid (show ∀ w', DL rPfx 2 w' (Lo w') An nn news → Calls Tryz.prog 83 #[.slice An nn cn] w' (RetL w' (pfxB news) true) from fun w' h => by
  have := refList05 An nn cn news w' h hz.2.2.2
  rw [listP_yes hm1] at this
  exact this)
 have HP := Lib.hid (show ∀ w', DL rSeg 2 w' (Lo w') A n path → NF w' (Lo w') A1 n1 comms → DL rRaw 3 w' (Lo w') A2 n2 raws → Calls Tryz.prog 84 #[.agg #[.int .i64 o, .slice A n c, .int .u32 nx, .int .i64 md, .int .i64 pf, .bool at_, .bool ha, .int .u32 gs, .int .u32 ga, .slice A1 n1 c1, .slice A2 n2 c2], .bool wide] w' (RetPE w' ([], 1)) from fun w' h1 h2 h3 => by
  have := refPut04U wide o A n c path nx md pf at_ ha gs ga A1 n1 c1 comms A2 n2 c2 raws w' h1 h2 h3 hz.1 hs hz.2.1 hw
  rw [show putAt wide (⟨o, path, nx, md, pf, at_, ha, gs, ga, comms, raws⟩ : At) = ([], 1) from if_neg (by rw [hr1]; decide)] at this
  exact this)
 clear hs hw hg1 hm1 hn0 hr1
 obtain ⟨W, hW, hX, b0⟩ := box1c w #[.slice Ag ng cg, .int .i64 o, .slice A n c, .int .u32 nx, .int .i64 md, .int .i64 pf, .bool at_, .bool ha, .int .u32 gs, .int .u32 ga, .slice A1 n1 c1, .slice A2 n2 c2, .slice An nn cn] 77
 go_enter Tryz.func37, Tryz.ntmps37
 go_upto_region 1 with fail
 try rw [hW]
 obtain ⟨q, hq⟩ : ∃ q, w.heap.size = q := ⟨_, rfl⟩
 try rw [hq]
 rw [hq] at hX
 have HQ := Lib.hid hq
 clear hW hq
 have c_hX0 := hX.cell 0
 have c_hX1 := hX.cell 1
 have c_hX2 := hX.cell 2
 have c_hX3 := hX.cell 3
 have c_hX4 := hX.cell 4
 have c_hX5 := hX.cell 5
 have c_hX6 := hX.cell 6
 have c_hX7 := hX.cell 7
 have c_hX8 := hX.cell 8
 have c_hX9 := hX.cell 9
 have c_hX10 := hX.cell 10
 have c_hX11 := hX.cell 11
 have c_hX12 := hX.cell 12
 go_wp2_with fail
 refine (HG.out _ (hg.pfxB5 b0)).mono ?_
 rintro _ w1 ⟨A3, n3, c3, rfl, o3, b1⟩
 clear c_hX0 c_hX1 c_hX2 c_hX3 c_hX4 c_hX5 c_hX6 c_hX7 c_hX8 c_hX9 c_hX10 c_hX11 c_hX12
 have b01 := btr b0 b1 b0.size
 have hX_1 := hX.below b1 hX.lt
 have c_hX0 := hX_1.cell 0
 have c_hX1 := hX_1.cell 1
 have c_hX2 := hX_1.cell 2
 have c_hX3 := hX_1.cell 3
 have c_hX4 := hX_1.cell 4
 have c_hX5 := hX_1.cell 5
 have c_hX6 := hX_1.cell 6
 have c_hX7 := hX_1.cell 7
 have c_hX8 := hX_1.cell 8
 have c_hX9 := hX_1.cell 9
 have c_hX10 := hX_1.cell 10
 have c_hX11 := hX_1.cell 11
 have c_hX12 := hX_1.cell 12
 have s3 := o3.bs
 go_wp2_with fail
 refine (HM.out _ (hm.pfxB5 b01)).mono ?_
 rintro _ w2 ⟨A4, n4, c4, rfl, o4, b2⟩
 clear c_hX0 c_hX1 c_hX2 c_hX3 c_hX4 c_hX5 c_hX6 c_hX7 c_hX8 c_hX9 c_hX10 c_hX11 c_hX12
 have b02 := btr b01 b2 b01.size
 have hX_2 := hX_1.below b2 hX_1.lt
 clear hX_1
 have s3_2 := s3.call b2
 have c_hX0 := hX_2.cell 0
 have c_hX1 := hX_2.cell 1
 have c_hX2 := hX_2.cell 2
 have c_hX3 := hX_2.cell 3
 have c_hX4 := hX_2.cell 4
 have c_hX5 := hX_2.cell 5
 have c_hX6 := hX_2.cell 6
 have c_hX7 := hX_2.cell 7
 have c_hX8 := hX_2.cell 8
 have c_hX9 := hX_2.cell 9
 have c_hX10 := hX_2.cell 10
 have c_hX11 := hX_2.cell 11
 have c_hX12 := hX_2.cell 12
 have s4 := o4.bs
 go_wp2_with fail
 refine (HP.out _ (hp.segB5 b02) (hc.numB5 b02) (hd.rawB5 b02)).mono ?_
 rintro _ w3 ⟨A5, n5, c5, rfl, o5, b3⟩
 clear c_hX0 c_hX1 c_hX2 c_hX3 c_hX4 c_hX5 c_hX6 c_hX7 c_hX8 c_hX9 c_hX10 c_hX11 c_hX12
 have b03 := btr b02 b3 b02.size
 have hX_3 := hX_2.below b3 hX_2.lt
 clear hX_2
 have s3_3 := s3_2.call b3
 clear s3_2
 have s4_3 := s4.call b3
 have c_hX0 := hX_3.cell 0
 have c_hX1 := hX_3.cell 1
 have c_hX2 := hX_3.cell 2
 have c_hX3 := hX_3.cell 3
 have c_hX4 := hX_3.cell 4
 have c_hX5 := hX_3.cell 5
 have c_hX6 := hX_3.cell 6
 have c_hX7 := hX_3.cell 7
 have c_hX8 := hX_3.cell 8
 have c_hX9 := hX_3.cell 9
 have c_hX10 := hX_3.cell 10
 have c_hX11 := hX_3.cell 11
 have c_hX12 := hX_3.cell 12
 have s5 := o5.bs
 go_wp2_with fail
 go_ret2
 exact ⟨none, 0, 0, rfl, OB.nil_, b03⟩
set_option maxHeartbeats 4000000 in
set_option maxRecDepth 100000 in
theorem refPut05_0 (wide : Bool) (Ag : Option Addr) (ng cg : Nat) (gone : List Pfx) (o : Int) (A : Option Addr) (n c : Nat) (path : List Seg) (nx md pf : Int) (at_ ha : Bool) (gs ga : Int) (A1 : Option Addr) (n1 c1 : Nat) (comms : List Int) (A2 : Option Addr) (n2 c2 : Nat) (raws : List RawV) (An : Option Addr) (nn cn : Nat) (news : List Pfx) (w : World) (hg : DL rPfx 2 w (Lo w) Ag ng gone) (hp : DL rSeg 2 w (Lo w) A n path) (hc : NF w (Lo w) A1 n1 comms) (hd : DL rRaw 3 w (Lo w) A2 n2 raws) (hm : DL rPfx 2 w (Lo w) An nn news) (hs : Hid (sumN path ≤ big32)) (hw : Hid (0 ≤ nx ∧ nx < 4294967296 ∧ 0 ≤ gs ∧ gs < 4294967296 ∧ 0 ≤ ga ∧ ga < 4294967296)) (hz : n ≤ 12 ∧ n2 ≤ 100000 ∧ ng ≤ 10000 ∧ nn ≤ 10000) (hg1 : gone.all okQ = true) (hm1 : news.all okQ = true) (hn0 : news.length = 0) :
  Calls Tryz.prog 37 #[.agg #[.slice Ag ng cg, .int .i64 o, .slice A n c, .int .u32 nx, .int .i64 md, .int .i64 pf, .bool at_, .bool ha, .int .u32 gs, .int .u32 ga, .slice A1 n1 c1, .slice A2 n2 c2, .slice An nn cn], .bool wide] w (RetPut w (updPut wide (⟨gone, ⟨o, path, nx, md, pf, at_, ha, gs, ga, comms, raws⟩, news⟩ : Upd)).1 (updPut wide (⟨gone, ⟨o, path, nx, md, pf, at_, ha, gs, ga, comms, raws⟩, news⟩ : Upd)).2) := by
 have tz : decide (0 < nn) = false := decide_eq_false (by have := hm.len; omega)
 have HG := Lib.hid (show ∀ w', DL rPfx 2 w' (Lo w') Ag ng gone → Calls Tryz.prog 83 #[.slice Ag ng cg] w' (RetL w' (pfxB gone) true) from fun w' h => by
  have := refList05 Ag ng cg gone w' h hz.2.2.1
  rw [listP_yes hg1] at this
  exact this)
 have HM := Lib.hid (show ∀ w', DL rPfx 2 w' (Lo w') An nn news → Calls Tryz.prog 83 #[.slice An nn cn] w' (RetL w' (pfxB news) true) from fun w' h => by
  have := refList05 An nn cn news w' h hz.2.2.2
  rw [listP_yes hm1] at this
  exact this)
 obtain ⟨G, hG⟩ : ∃ x, pfxB gone = x := ⟨_, rfl⟩
 obtain ⟨M, hM⟩ : ∃ x, pfxB news = x := ⟨_, rfl⟩
 have HLG := Lib.hid (show G.length ≤ 50000 by have h1 := pfxB_len gone; have h2 := hg.len; rw [hG] at h1; omega)
 have HLM := Lib.hid (show M.length ≤ 50000 by have h1 := pfxB_len news; have h2 := hm.len; rw [hM] at h1; omega)
 have HV := Lib.hid (show updPut wide (⟨gone, ⟨o, path, nx, md, pf, at_, ha, gs, ga, comms, raws⟩, news⟩ : Upd) = if 4077 < G.length + ([] : List UInt8).length + M.length + 4 then ([], 4) else (updB G ([] : List UInt8) M, 0) by
  have hk : updOk (⟨gone, ⟨o, path, nx, md, pf, at_, ha, gs, ga, comms, raws⟩, news⟩ : Upd) = true := by unfold updOk; simp only [hg1, hm1, Bool.true_and]; rw [decide_eq_true hn0]; rfl
  unfold updPut updLen
  rw [if_pos hk, show saidB wide (⟨gone, ⟨o, path, nx, md, pf, at_, ha, gs, ga, comms, raws⟩, news⟩ : Upd) = ([] : List UInt8) from if_pos hn0, ← hG, ← hM])
 rw [hG] at HG
 rw [hM] at HM
 clear hs hw hg1 hm1 hn0 hG hM
 obtain ⟨W, hW, hX, b0⟩ := box1c w #[.slice Ag ng cg, .int .i64 o, .slice A n c, .int .u32 nx, .int .i64 md, .int .i64 pf, .bool at_, .bool ha, .int .u32 gs, .int .u32 ga, .slice A1 n1 c1, .slice A2 n2 c2, .slice An nn cn] 77
 go_enter Tryz.func37, Tryz.ntmps37
 go_upto_region 1 with fail
 try rw [hW]
 obtain ⟨q, hq⟩ : ∃ q, w.heap.size = q := ⟨_, rfl⟩
 try rw [hq]
 rw [hq] at hX
 have HQ := Lib.hid hq
 clear hW hq
 have c_hX0 := hX.cell 0
 have c_hX1 := hX.cell 1
 have c_hX2 := hX.cell 2
 have c_hX3 := hX.cell 3
 have c_hX4 := hX.cell 4
 have c_hX5 := hX.cell 5
 have c_hX6 := hX.cell 6
 have c_hX7 := hX.cell 7
 have c_hX8 := hX.cell 8
 have c_hX9 := hX.cell 9
 have c_hX10 := hX.cell 10
 have c_hX11 := hX.cell 11
 have c_hX12 := hX.cell 12
 go_wp2_with fail
 refine (HG.out _ (hg.pfxB5 b0)).mono ?_
 rintro _ w1 ⟨A3, n3, c3, rfl, o3, b1⟩
 clear c_hX0 c_hX1 c_hX2 c_hX3 c_hX4 c_hX5 c_hX6 c_hX7 c_hX8 c_hX9 c_hX10 c_hX11 c_hX12
 have b01 := btr b0 b1 b0.size
 have hX_1 := hX.below b1 hX.lt
 have c_hX0 := hX_1.cell 0
 have c_hX1 := hX_1.cell 1
 have c_hX2 := hX_1.cell 2
 have c_hX3 := hX_1.cell 3
 have c_hX4 := hX_1.cell 4
 have c_hX5 := hX_1.cell 5
 have c_hX6 := hX_1.cell 6
 have c_hX7 := hX_1.cell 7
 have c_hX8 := hX_1.cell 8
 have c_hX9 := hX_1.cell 9
 have c_hX10 := hX_1.cell 10
 have c_hX11 := hX_1.cell 11
 have c_hX12 := hX_1.cell 12
 have s3 := o3.bs
 go_wp2_with fail
 refine (HM.out _ (hm.pfxB5 b01)).mono ?_
 rintro _ w2 ⟨A4, n4, c4, rfl, o4, b2⟩
 clear c_hX0 c_hX1 c_hX2 c_hX3 c_hX4 c_hX5 c_hX6 c_hX7 c_hX8 c_hX9 c_hX10 c_hX11 c_hX12
 have b02 := btr b01 b2 b01.size
 have hX_2 := hX_1.below b2 hX_1.lt
 clear hX_1
 have s3_2 := s3.call b2
 have c_hX0 := hX_2.cell 0
 have c_hX1 := hX_2.cell 1
 have c_hX2 := hX_2.cell 2
 have c_hX3 := hX_2.cell 3
 have c_hX4 := hX_2.cell 4
 have c_hX5 := hX_2.cell 5
 have c_hX6 := hX_2.cell 6
 have c_hX7 := hX_2.cell 7
 have c_hX8 := hX_2.cell 8
 have c_hX9 := hX_2.cell 9
 have c_hX10 := hX_2.cell 10
 have c_hX11 := hX_2.cell 11
 have c_hX12 := hX_2.cell 12
 have s4 := o4.bs
 have S3 := s3_2
 have S4 := s4
 have bB := b02
 have e3 := Lib.hid S3.len
 have e4 := Lib.hid S4.len
 go_wp2_with fail
 refine (ref01Put16 none 0 0 [] n3 _ BS.none_ (by simp)).mono ?_
 rw [List.nil_append]
 rintro _ w6 ⟨A6, n6, c6, rfl, o6, b6⟩
 have m3 := S3.below b6
 go_wp2_with (at_builtin; refine wpl_app rfl (.tmp 49) (.tmp 50) _ rfl 5 Tryz.underlying38 u8info w2.heap.size A6 n6 c6 _ (by rfl) o6 w2.heap.size A3 n3 c3 G (by rfl) m3 (by have := e3.out; have := HLG.out; simp [b16]; omega) b6.size ?_; intro A7 n7 c7 w7 o7 b7 g7)
 have b67 := b6.trans b7
 refine (ref01Put16 A7 n7 c7 _ 0 _ o7.bs (by have := e3.out; have := HLG.out; simp [b16]; omega)).mono ?_
 rintro _ w8 ⟨A8, n8, c8, rfl, o8, b8⟩
 have b68 := btr b67 b8 b67.size
 have o8' := o8.low (base' := w2.heap.size) b67.size
 have pS : BS w8 w2.heap.size none 0 ([] : List UInt8) := BS.none_
 go_upto_region 16 with (first
  | (at_builtin; refine wpl_app rfl (.tmp 56) (.tmp 57) _ rfl 5 Tryz.underlying38 u8info w2.heap.size A8 n8 c8 _ (by rfl) o8' w2.heap.size none 0 0 ([] : List UInt8) (by rfl) pS (by have := e3.out; have := HLG.out; have := HLG.out; simp [b16]; omega) b68.size ?_; intro A9 n9 c9 w9 o9 b9 g9; have b69 := b68.trans b9; have r4 := S4.below b69)
  | (at_builtin; refine wpl_app rfl (.tmp 59) (.tmp 60) _ rfl 5 Tryz.underlying38 u8info w2.heap.size A9 n9 c9 _ (by rfl) o9 w2.heap.size A4 n4 c4 M (by rfl) r4 (by have := e3.out; have := HLG.out; have := HLG.out; have := e4.out; have := HLM.out; simp [b16]; omega) b69.size ?_; intro A10 n10 c10 w10 o10 b10 g10; have b6t := b69.trans b10))
 have HN := Lib.hid (show n10 = G.length + ([] : List UInt8).length + M.length + 4 by have := o10.1; simp [b16] at this; (try simp only [List.length_nil]); omega)
 have HB := Lib.hid (show b16 (n3 : Int) ++ G ++ b16 (0 : Int) ++ ([] : List UInt8) ++ M = updB G ([] : List UInt8) M by unfold updB; rw [e3.out, show ((([] : List UInt8).length : Nat) : Int) = ((0 : Nat) : Int) from rfl]; try rfl)
 have bE := btr bB b6t bB.size
 have oE := o10.low (base' := w.heap.size) bB.size
 obtain ⟨L, hL⟩ : ∃ L, b16 (n3 : Int) ++ G ++ b16 (0 : Int) ++ ([] : List UInt8) ++ M = L := ⟨_, rfl⟩
 rw [hL] at HB oE
 clear o10 o9 o8 o8' o7 o6 hL
 by_cases hlt : 4077 < n10
 ·have t1 : decide ((4077 : Int) < (n10 : Int)) = true := decide_eq_true (by omega)
  have t2 : decide (4077 < n10) = true := decide_eq_true (by omega)
  have HE := Lib.hid (show updPut wide (⟨gone, ⟨o, path, nx, md, pf, at_, ha, gs, ga, comms, raws⟩, news⟩ : Upd) = ([], 4) by rw [HV.out, if_pos (by rw [← HN.out]; exact hlt)])
  clear hlt
  go_wp2_with fail
  go_ret2
  rw [HE.out]
  exact ⟨none, 0, 0, rfl, OB.nil_, bE⟩
 ·have t1 : decide ((4077 : Int) < (n10 : Int)) = false := decide_eq_false (by omega)
  have t2 : decide (4077 < n10) = false := decide_eq_false (by omega)
  have HE := Lib.hid (show updPut wide (⟨gone, ⟨o, path, nx, md, pf, at_, ha, gs, ga, comms, raws⟩, news⟩ : Upd) = (updB G ([] : List UInt8) M, 0) by rw [HV.out, if_neg (by rw [← HN.out]; exact hlt)])
  clear hlt
  go_wp2_with fail
  go_ret2
  rw [HE.out, ← HB.out]
  exact ⟨A10, n10, c10, rfl, oE, bE⟩
set_option maxHeartbeats 4000000 in
set_option maxRecDepth 100000 in
theorem refPut05_1 (wide : Bool) (Ag : Option Addr) (ng cg : Nat) (gone : List Pfx) (o : Int) (A : Option Addr) (n c : Nat) (path : List Seg) (nx md pf : Int) (at_ ha : Bool) (gs ga : Int) (A1 : Option Addr) (n1 c1 : Nat) (comms : List Int) (A2 : Option Addr) (n2 c2 : Nat) (raws : List RawV) (An : Option Addr) (nn cn : Nat) (news : List Pfx) (w : World) (hg : DL rPfx 2 w (Lo w) Ag ng gone) (hp : DL rSeg 2 w (Lo w) A n path) (hc : NF w (Lo w) A1 n1 comms) (hd : DL rRaw 3 w (Lo w) A2 n2 raws) (hm : DL rPfx 2 w (Lo w) An nn news) (hs : Hid (sumN path ≤ big32)) (hw : Hid (0 ≤ nx ∧ nx < 4294967296 ∧ 0 ≤ gs ∧ gs < 4294967296 ∧ 0 ≤ ga ∧ ga < 4294967296)) (hz : n ≤ 12 ∧ n2 ≤ 100000 ∧ ng ≤ 10000 ∧ nn ≤ 10000) (hg1 : gone.all okQ = true) (hm1 : news.all okQ = true) (hn0 : ¬ news.length = 0) (hr1 : rightAt (⟨o, path, nx, md, pf, at_, ha, gs, ga, comms, raws⟩ : At) = true) :
  Calls Tryz.prog 37 #[.agg #[.slice Ag ng cg, .int .i64 o, .slice A n c, .int .u32 nx, .int .i64 md, .int .i64 pf, .bool at_, .bool ha, .int .u32 gs, .int .u32 ga, .slice A1 n1 c1, .slice A2 n2 c2, .slice An nn cn], .bool wide] w (RetPut w (updPut wide (⟨gone, ⟨o, path, nx, md, pf, at_, ha, gs, ga, comms, raws⟩, news⟩ : Upd)).1 (updPut wide (⟨gone, ⟨o, path, nx, md, pf, at_, ha, gs, ga, comms, raws⟩, news⟩ : Upd)).2) := by
 have tz : decide (0 < nn) = true := decide_eq_true (by have := hm.len; omega)
 have HG := Lib.hid (show ∀ w', DL rPfx 2 w' (Lo w') Ag ng gone → Calls Tryz.prog 83 #[.slice Ag ng cg] w' (RetL w' (pfxB gone) true) from fun w' h => by
  have := refList05 Ag ng cg gone w' h hz.2.2.1
  rw [listP_yes hg1] at this
  exact this)
 have HM := Lib.hid (show ∀ w', DL rPfx 2 w' (Lo w') An nn news → Calls Tryz.prog 83 #[.slice An nn cn] w' (RetL w' (pfxB news) true) from fun w' h => by
  have := refList05 An nn cn news w' h hz.2.2.2
  rw [listP_yes hm1] at this
  exact this)
 have HP := Lib.hid (show ∀ w', DL rSeg 2 w' (Lo w') A n path → NF w' (Lo w') A1 n1 comms → DL rRaw 3 w' (Lo w') A2 n2 raws → Calls Tryz.prog 84 #[.agg #[.int .i64 o, .slice A n c, .int .u32 nx, .int .i64 md, .int .i64 pf, .bool at_, .bool ha, .int .u32 gs, .int .u32 ga, .slice A1 n1 c1, .slice A2 n2 c2], .bool wide] w' (RetPE w' (attsB wide (⟨o, path, nx, md, pf, at_, ha, gs, ga, comms, raws⟩ : At), 0)) from fun w' h1 h2 h3 => by
  have := refPut04U wide o A n c path nx md pf at_ ha gs ga A1 n1 c1 comms A2 n2 c2 raws w' h1 h2 h3 hz.1 hs hz.2.1 hw
  rw [show putAt wide (⟨o, path, nx, md, pf, at_, ha, gs, ga, comms, raws⟩ : At) = (attsB wide (⟨o, path, nx, md, pf, at_, ha, gs, ga, comms, raws⟩ : At), 0) from if_pos hr1] at this
  exact this)
 obtain ⟨G, hG⟩ : ∃ x, pfxB gone = x := ⟨_, rfl⟩
 obtain ⟨M, hM⟩ : ∃ x, pfxB news = x := ⟨_, rfl⟩
 have HLG := Lib.hid (show G.length ≤ 50000 by have h1 := pfxB_len gone; have h2 := hg.len; rw [hG] at h1; omega)
 have HLM := Lib.hid (show M.length ≤ 50000 by have h1 := pfxB_len news; have h2 := hm.len; rw [hM] at h1; omega)
 obtain ⟨S, hS⟩ : ∃ x, attsB wide (⟨o, path, nx, md, pf, at_, ha, gs, ga, comms, raws⟩ : At) = x := ⟨_, rfl⟩
 have HLS := Lib.hid (show S.length ≤ 5000 by rw [← hS]; exact attsB_len wide hr1)
 have HV := Lib.hid (show updPut wide (⟨gone, ⟨o, path, nx, md, pf, at_, ha, gs, ga, comms, raws⟩, news⟩ : Upd) = if 4077 < G.length + S.length + M.length + 4 then ([], 4) else (updB G S M, 0) by
  have hk : updOk (⟨gone, ⟨o, path, nx, md, pf, at_, ha, gs, ga, comms, raws⟩, news⟩ : Upd) = true := by unfold updOk; simp only [hg1, hm1, Bool.true_and]; rw [hr1, Bool.or_true]
  unfold updPut updLen
  rw [if_pos hk, show saidB wide (⟨gone, ⟨o, path, nx, md, pf, at_, ha, gs, ga, comms, raws⟩, news⟩ : Upd) = S from (if_neg hn0).trans hS, ← hG, ← hM])
 rw [hG] at HG
 rw [hM] at HM
 rw [hS] at HP
 clear hs hw hg1 hm1 hn0 hr1 hG hM hS
 obtain ⟨W, hW, hX, b0⟩ := box1c w #[.slice Ag ng cg, .int .i64 o, .slice A n c, .int .u32 nx, .int .i64 md, .int .i64 pf, .bool at_, .bool ha, .int .u32 gs, .int .u32 ga, .slice A1 n1 c1, .slice A2 n2 c2, .slice An nn cn] 77
 go_enter Tryz.func37, Tryz.ntmps37
 go_upto_region 1 with fail
 try rw [hW]
 obtain ⟨q, hq⟩ : ∃ q, w.heap.size = q := ⟨_, rfl⟩
 try rw [hq]
 rw [hq] at hX
 have HQ := Lib.hid hq
 clear hW hq
 have c_hX0 := hX.cell 0
 have c_hX1 := hX.cell 1
 have c_hX2 := hX.cell 2
 have c_hX3 := hX.cell 3
 have c_hX4 := hX.cell 4
 have c_hX5 := hX.cell 5
 have c_hX6 := hX.cell 6
 have c_hX7 := hX.cell 7
 have c_hX8 := hX.cell 8
 have c_hX9 := hX.cell 9
 have c_hX10 := hX.cell 10
 have c_hX11 := hX.cell 11
 have c_hX12 := hX.cell 12
 go_wp2_with fail
 refine (HG.out _ (hg.pfxB5 b0)).mono ?_
 rintro _ w1 ⟨A3, n3, c3, rfl, o3, b1⟩
 clear c_hX0 c_hX1 c_hX2 c_hX3 c_hX4 c_hX5 c_hX6 c_hX7 c_hX8 c_hX9 c_hX10 c_hX11 c_hX12
 have b01 := btr b0 b1 b0.size
 have hX_1 := hX.below b1 hX.lt
 have c_hX0 := hX_1.cell 0
 have c_hX1 := hX_1.cell 1
 have c_hX2 := hX_1.cell 2
 have c_hX3 := hX_1.cell 3
 have c_hX4 := hX_1.cell 4
 have c_hX5 := hX_1.cell 5
 have c_hX6 := hX_1.cell 6
 have c_hX7 := hX_1.cell 7
 have c_hX8 := hX_1.cell 8
 have c_hX9 := hX_1.cell 9
 have c_hX10 := hX_1.cell 10
 have c_hX11 := hX_1.cell 11
 have c_hX12 := hX_1.cell 12
 have s3 := o3.bs
 go_wp2_with fail
 refine (HM.out _ (hm.pfxB5 b01)).mono ?_
 rintro _ w2 ⟨A4, n4, c4, rfl, o4, b2⟩
 clear c_hX0 c_hX1 c_hX2 c_hX3 c_hX4 c_hX5 c_hX6 c_hX7 c_hX8 c_hX9 c_hX10 c_hX11 c_hX12
 have b02 := btr b01 b2 b01.size
 have hX_2 := hX_1.below b2 hX_1.lt
 clear hX_1
 have s3_2 := s3.call b2
 have c_hX0 := hX_2.cell 0
 have c_hX1 := hX_2.cell 1
 have c_hX2 := hX_2.cell 2
 have c_hX3 := hX_2.cell 3
 have c_hX4 := hX_2.cell 4
 have c_hX5 := hX_2.cell 5
 have c_hX6 := hX_2.cell 6
 have c_hX7 := hX_2.cell 7
 have c_hX8 := hX_2.cell 8
 have c_hX9 := hX_2.cell 9
 have c_hX10 := hX_2.cell 10
 have c_hX11 := hX_2.cell 11
 have c_hX12 := hX_2.cell 12
 have s4 := o4.bs
 go_wp2_with fail
 refine (HP.out _ (hp.segB5 b02) (hc.numB5 b02) (hd.rawB5 b02)).mono ?_
 rintro _ w3 ⟨A5, n5, c5, rfl, o5, b3⟩
 clear c_hX0 c_hX1 c_hX2 c_hX3 c_hX4 c_hX5 c_hX6 c_hX7 c_hX8 c_hX9 c_hX10 c_hX11 c_hX12
 have b03 := btr b02 b3 b02.size
 have hX_3 := hX_2.below b3 hX_2.lt
 clear hX_2
 have s3_3 := s3_2.call b3
 clear s3_2
 have s4_3 := s4.call b3
 have c_hX0 := hX_3.cell 0
 have c_hX1 := hX_3.cell 1
 have c_hX2 := hX_3.cell 2
 have c_hX3 := hX_3.cell 3
 have c_hX4 := hX_3.cell 4
 have c_hX5 := hX_3.cell 5
 have c_hX6 := hX_3.cell 6
 have c_hX7 := hX_3.cell 7
 have c_hX8 := hX_3.cell 8
 have c_hX9 := hX_3.cell 9
 have c_hX10 := hX_3.cell 10
 have c_hX11 := hX_3.cell 11
 have c_hX12 := hX_3.cell 12
 have s5 := o5.bs
 have S5 := s5
 have e5 := Lib.hid S5.len
 have S3 := s3_3
 have S4 := s4_3
 have bB := b03
 have e3 := Lib.hid S3.len
 have e4 := Lib.hid S4.len
 go_wp2_with fail
 refine (ref01Put16 none 0 0 [] n3 _ BS.none_ (by simp)).mono ?_
 rw [List.nil_append]
 rintro _ w6 ⟨A6, n6, c6, rfl, o6, b6⟩
 have m3 := S3.below b6
 go_wp2_with (at_builtin; refine wpl_app rfl (.tmp 49) (.tmp 50) _ rfl 5 Tryz.underlying38 u8info w3.heap.size A6 n6 c6 _ (by rfl) o6 w3.heap.size A3 n3 c3 G (by rfl) m3 (by have := e3.out; have := HLG.out; simp [b16]; omega) b6.size ?_; intro A7 n7 c7 w7 o7 b7 g7)
 have b67 := b6.trans b7
 refine (ref01Put16 A7 n7 c7 _ n5 _ o7.bs (by have := e3.out; have := HLG.out; simp [b16]; omega)).mono ?_
 rintro _ w8 ⟨A8, n8, c8, rfl, o8, b8⟩
 have b68 := btr b67 b8 b67.size
 have o8' := o8.low (base' := w3.heap.size) b67.size
 have pS : BS w8 w3.heap.size A5 n5 S := S5.below b68
 go_upto_region 16 with (first
  | (at_builtin; refine wpl_app rfl (.tmp 56) (.tmp 57) _ rfl 5 Tryz.underlying38 u8info w3.heap.size A8 n8 c8 _ (by rfl) o8' w3.heap.size A5 n5 c5 S (by rfl) pS (by have := e3.out; have := HLG.out; have := HLS.out; simp [b16]; omega) b68.size ?_; intro A9 n9 c9 w9 o9 b9 g9; have b69 := b68.trans b9; have r4 := S4.below b69)
  | (at_builtin; refine wpl_app rfl (.tmp 59) (.tmp 60) _ rfl 5 Tryz.underlying38 u8info w3.heap.size A9 n9 c9 _ (by rfl) o9 w3.heap.size A4 n4 c4 M (by rfl) r4 (by have := e3.out; have := HLG.out; have := HLS.out; have := e4.out; have := HLM.out; simp [b16]; omega) b69.size ?_; intro A10 n10 c10 w10 o10 b10 g10; have b6t := b69.trans b10))
 have HN := Lib.hid (show n10 = G.length + S.length + M.length + 4 by have := o10.1; simp [b16] at this; (try simp only [List.length_nil]); omega)
 have HB := Lib.hid (show b16 (n3 : Int) ++ G ++ b16 (n5 : Int) ++ S ++ M = updB G S M by unfold updB; rw [e3.out, e5.out]; try rfl)
 have bE := btr bB b6t bB.size
 have oE := o10.low (base' := w.heap.size) bB.size
 obtain ⟨L, hL⟩ : ∃ L, b16 (n3 : Int) ++ G ++ b16 (n5 : Int) ++ S ++ M = L := ⟨_, rfl⟩
 rw [hL] at HB oE
 clear o10 o9 o8 o8' o7 o6 hL
 by_cases hlt : 4077 < n10
 ·have t1 : decide ((4077 : Int) < (n10 : Int)) = true := decide_eq_true (by omega)
  have t2 : decide (4077 < n10) = true := decide_eq_true (by omega)
  have HE := Lib.hid (show updPut wide (⟨gone, ⟨o, path, nx, md, pf, at_, ha, gs, ga, comms, raws⟩, news⟩ : Upd) = ([], 4) by rw [HV.out, if_pos (by rw [← HN.out]; exact hlt)])
  clear hlt
  go_wp2_with fail
  go_ret2
  rw [HE.out]
  exact ⟨none, 0, 0, rfl, OB.nil_, bE⟩
 ·have t1 : decide ((4077 : Int) < (n10 : Int)) = false := decide_eq_false (by omega)
  have t2 : decide (4077 < n10) = false := decide_eq_false (by omega)
  have HE := Lib.hid (show updPut wide (⟨gone, ⟨o, path, nx, md, pf, at_, ha, gs, ga, comms, raws⟩, news⟩ : Upd) = (updB G S M, 0) by rw [HV.out, if_neg (by rw [← HN.out]; exact hlt)])
  clear hlt
  go_wp2_with fail
  go_ret2
  rw [HE.out, ← HB.out]
  exact ⟨A10, n10, c10, rfl, oE, bE⟩
theorem refPut05 (wide : Bool) (Ag : Option Addr) (ng cg : Nat) (gone : List Pfx) (o : Int) (A : Option Addr) (n c : Nat) (path : List Seg) (nx md pf : Int) (at_ ha : Bool) (gs ga : Int) (A1 : Option Addr) (n1 c1 : Nat) (comms : List Int) (A2 : Option Addr) (n2 c2 : Nat) (raws : List RawV) (An : Option Addr) (nn cn : Nat) (news : List Pfx) (w : World) (hg : DL rPfx 2 w (Lo w) Ag ng gone) (hp : DL rSeg 2 w (Lo w) A n path) (hc : NF w (Lo w) A1 n1 comms) (hd : DL rRaw 3 w (Lo w) A2 n2 raws) (hm : DL rPfx 2 w (Lo w) An nn news) (hs : Hid (sumN path ≤ big32)) (hw : Hid (0 ≤ nx ∧ nx < 4294967296 ∧ 0 ≤ gs ∧ gs < 4294967296 ∧ 0 ≤ ga ∧ ga < 4294967296)) (hz : n ≤ 12 ∧ n2 ≤ 100000 ∧ ng ≤ 10000 ∧ nn ≤ 10000) :
  Calls Tryz.prog 37 #[.agg #[.slice Ag ng cg, .int .i64 o, .slice A n c, .int .u32 nx, .int .i64 md, .int .i64 pf, .bool at_, .bool ha, .int .u32 gs, .int .u32 ga, .slice A1 n1 c1, .slice A2 n2 c2, .slice An nn cn], .bool wide] w (RetPut w (updPut wide (⟨gone, ⟨o, path, nx, md, pf, at_, ha, gs, ga, comms, raws⟩, news⟩ : Upd)).1 (updPut wide (⟨gone, ⟨o, path, nx, md, pf, at_, ha, gs, ga, comms, raws⟩, news⟩ : Upd)).2) := by
 have no : updOk (⟨gone, ⟨o, path, nx, md, pf, at_, ha, gs, ga, comms, raws⟩, news⟩ : Upd) = false → Calls Tryz.prog 37 #[.agg #[.slice Ag ng cg, .int .i64 o, .slice A n c, .int .u32 nx, .int .i64 md, .int .i64 pf, .bool at_, .bool ha, .int .u32 gs, .int .u32 ga, .slice A1 n1 c1, .slice A2 n2 c2, .slice An nn cn], .bool wide] w (RetPut w [] 1) → Calls Tryz.prog 37 #[.agg #[.slice Ag ng cg, .int .i64 o, .slice A n c, .int .u32 nx, .int .i64 md, .int .i64 pf, .bool at_, .bool ha, .int .u32 gs, .int .u32 ga, .slice A1 n1 c1, .slice A2 n2 c2, .slice An nn cn], .bool wide] w (RetPut w (updPut wide (⟨gone, ⟨o, path, nx, md, pf, at_, ha, gs, ga, comms, raws⟩, news⟩ : Upd)).1 (updPut wide (⟨gone, ⟨o, path, nx, md, pf, at_, ha, gs, ga, comms, raws⟩, news⟩ : Upd)).2) := by
  intro h1 h2
  rw [show updPut wide (⟨gone, ⟨o, path, nx, md, pf, at_, ha, gs, ga, comms, raws⟩, news⟩ : Upd) = ([], 1) from if_neg (by rw [h1]; decide)]
  exact h2
 cases hg1 : gone.all okQ
 ·exact no (by unfold updOk; rw [hg1]; rfl) (refPut05_g wide Ag ng cg gone o A n c path nx md pf at_ ha gs ga A1 n1 c1 comms A2 n2 c2 raws An nn cn news w hg hp hc hd hm hs hw hz hg1)
 cases hm1 : news.all okQ
 ·exact no (by unfold updOk; rw [hg1, hm1]; rfl) (refPut05_m wide Ag ng cg gone o A n c path nx md pf at_ ha gs ga A1 n1 c1 comms A2 n2 c2 raws An nn cn news w hg hp hc hd hm hs hw hz hg1 hm1)
 by_cases hn0 : news.length = 0
 ·exact refPut05_0 wide Ag ng cg gone o A n c path nx md pf at_ ha gs ga A1 n1 c1 comms A2 n2 c2 raws An nn cn news w hg hp hc hd hm hs hw hz hg1 hm1 hn0
 cases hr1 : rightAt (⟨o, path, nx, md, pf, at_, ha, gs, ga, comms, raws⟩ : At)
 ·exact no (by unfold updOk; rw [hg1, hm1, decide_eq_false hn0]; exact hr1) (refPut05_r wide Ag ng cg gone o A n c path nx md pf at_ ha gs ga A1 n1 c1 comms A2 n2 c2 raws An nn cn news w hg hp hc hd hm hs hw hz hg1 hm1 hn0 hr1)
 ·exact refPut05_1 wide Ag ng cg gone o A n c path nx md pf at_ ha gs ga A1 n1 c1 comms A2 n2 c2 raws An nn cn news w hg hp hc hd hm hs hw hz hg1 hm1 hn0 hr1
theorem updPut5 (wide : Bool) (Ag : Option Addr) (ng cg : Nat) (gone : List Pfx) (o : Int) (A : Option Addr) (n c : Nat) (path : List Seg) (nx md pf : Int) (at_ ha : Bool) (gs ga : Int) (A1 : Option Addr) (n1 c1 : Nat) (comms : List Int) (A2 : Option Addr) (n2 c2 : Nat) (raws : List RawV) (An : Option Addr) (nn cn : Nat) (news : List Pfx) (w : World) (hg : DL rPfx 2 w (Lo w) Ag ng gone) (hp : DL rSeg 2 w (Lo w) A n path) (hc : NF w (Lo w) A1 n1 comms) (hd : DL rRaw 3 w (Lo w) A2 n2 raws) (hm : DL rPfx 2 w (Lo w) An nn news) (hs : Hid (sumN path ≤ big32)) (hw : Hid (0 ≤ nx ∧ nx < 4294967296 ∧ 0 ≤ gs ∧ gs < 4294967296 ∧ 0 ≤ ga ∧ ga < 4294967296)) (hz : n ≤ 12 ∧ n2 ≤ 100000 ∧ ng ≤ 10000 ∧ nn ≤ 10000) (ht : LookTab w) :
  Calls Tryz.prog 36 #[.agg #[.slice Ag ng cg, .int .i64 o, .slice A n c, .int .u32 nx, .int .i64 md, .int .i64 pf, .bool at_, .bool ha, .int .u32 gs, .int .u32 ga, .slice A1 n1 c1, .slice A2 n2 c2, .slice An nn cn], .bool wide] w (RetPut w (updPut wide (⟨gone, ⟨o, path, nx, md, pf, at_, ha, gs, ga, comms, raws⟩, news⟩ : Upd)).1 (updPut wide (⟨gone, ⟨o, path, nx, md, pf, at_, ha, gs, ga, comms, raws⟩, news⟩ : Upd)).2) := by
 cases hk : updOk (⟨gone, ⟨o, path, nx, md, pf, at_, ha, gs, ga, comms, raws⟩, news⟩ : Upd)
 ·rw [show updPut wide (⟨gone, ⟨o, path, nx, md, pf, at_, ha, gs, ga, comms, raws⟩, news⟩ : Upd) = ([], 1) from if_neg (by rw [hk]; decide)]
  exact updPut_no wide Ag ng cg gone o A n c path nx md pf at_ ha gs ga A1 n1 c1 comms A2 n2 c2 raws An nn cn news w hg hp hc hd hm hs hw hz ht hk
 ·refine updPut_yes wide Ag ng cg gone o A n c path nx md pf at_ ha gs ga A1 n1 c1 comms A2 n2 c2 raws An nn cn news w hg hp hc hd hm hs hw hz ht hk ?_
  unfold saidB
  by_cases hn0 : news.length = 0
  ·rw [if_pos hn0]; simp
  ·rw [if_neg hn0]
   unfold updOk at hk
   simp only [Bool.and_eq_true, Bool.or_eq_true, decide_eq_true_eq] at hk
   exact attsB_len wide (hk.2.resolve_left hn0)
end Go.Proofs.YthgjknmfghjioaaGreatDoor

namespace Go.Proofs.YthgjknmfghjioaaGreatDoor
open Go.RowKit
set_option linter.unusedSimpArgs false
set_option linter.unusedVariables false
set_option maxHeartbeats 2000000 in
set_option maxRecDepth 100000 in
/-- Prefixes that are the same compare so. -/
theorem equalP (A A' : Option Addr) (n c c' : Nat) (l : List Pfx) (w : World) (h : DL rPfx 2 w (Lo w) A n l) (h' : DL rPfx 2 w (Lo w) A' n l) (hbd : n ≤ 1000000) :
  Calls Tryz.prog 132 #[.slice A n c, .slice A' n c'] w fun en w' => en = .returned (.bool true) ∧ Below w.heap.size w w' := by
 have HN := Lib.hid h.len
 go_enter Tryz.func132, Tryz.ntmps132
 go_wp2_with fail
 go_loopw [13] (fun i wr => ∃ j q : Nat, j ≤ n ∧ i = .int .i64 j ∧ wr = w.drewN q) (fun i _ => n - (intOf i).toNat)
 case atStart => exact ⟨0, 0, by omega, rfl, rfl⟩
 case round =>
  obtain ⟨j, q, hj, rfl, rfl⟩ := hrel
  by_cases hlt : j < n
  ·obtain ⟨p, hp⟩ : ∃ p, l[j]? = some p := ⟨_, List.getElem?_eq_getElem (by have := HN.out; omega)⟩
   obtain ⟨b, off, rfl, _, k0, k1, _, _⟩ := h.pfxAt hp
   obtain ⟨b', off', rfl, _, k0', k1', _, _⟩ := h'.pfxAt hp
   have hlti : (j : Int) < n := by omega
   have hd : decide ((j : Int) < n) = true := decide_eq_true hlti
   clear hp
   go_wp2_with fail
   go_quiet (fail)
   go_wp2_with fail
   go_roundw
   case rel => exact ⟨j + 1, q + nq, by omega, by go_num, rfl⟩
   case measure => simp [intOf]; omega
  ·have hd : decide ((j : Int) < n) = false := decide_eq_false (by omega)
   go_wp2_with fail
   go_ret
   exact ⟨rfl, below_drewN (Below.refl _ _) _⟩
set_option maxHeartbeats 2000000 in
set_option maxRecDepth 100000 in
theorem refSame02 (A A' : Option Addr) (n c c' : Nat) (l : List Pfx) (w : World) (h : DL rPfx 2 w (Lo w) A n l) (h' : DL rPfx 2 w (Lo w) A' n l) (hbd : n ≤ 1000000) :
  Calls Tryz.prog 44 #[.slice A n c, .slice A' n c'] w fun en w' => en = .returned (.bool true) ∧ Below w.heap.size w w' := by
 have HN := Lib.hid h.len
 go_enter Tryz.func44, Tryz.ntmps44
 go_wp2_with fail
 go_loopw [5] (fun i wr => ∃ j q : Nat, j ≤ n ∧ i = .int .i64 j ∧ wr = w.drewN q) (fun i _ => n - (intOf i).toNat)
 case atStart => exact ⟨0, 0, by omega, rfl, rfl⟩
 case round =>
  obtain ⟨j, q, hj, rfl, rfl⟩ := hrel
  by_cases hlt : j < n
  ·obtain ⟨p, hp⟩ : ∃ p, l[j]? = some p := ⟨_, List.getElem?_eq_getElem (by have := HN.out; omega)⟩
   obtain ⟨b, off, rfl, _, k0, k1, _, _⟩ := h.pfxAt hp
   obtain ⟨b', off', rfl, _, k0', k1', _, _⟩ := h'.pfxAt hp
   have hlti : (j : Int) < n := by omega
   have hd : decide ((j : Int) < n) = true := decide_eq_true hlti
   clear hp
   go_wp2_with fail
   go_quiet (fail)
   go_wp2_with fail
   go_roundw
   case rel => exact ⟨j + 1, q + nq, by omega, by go_num, rfl⟩
   case measure => simp [intOf]; omega
  ·have hd : decide ((j : Int) < n) = false := decide_eq_false (by omega)
   go_wp2_with fail
   go_ret
   exact ⟨rfl, below_drewN (Below.refl _ _) _⟩
def fewU (u : Upd) (k : Nat) : Bool := fewAt u.a.path u.a.comms u.a.raws && decide (u.gone.length ≤ k) && decide (u.news.length ≤ k)
set_option maxHeartbeats 4000000 in
set_option maxRecDepth 100000 in
theorem law05Few (Ag : Option Addr) (ng cg : Nat) (gone : List Pfx) (o : Int) (A : Option Addr) (n c : Nat) (path : List Seg) (nx md pf : Int) (at_ ha : Bool) (gs ga : Int) (A1 : Option Addr) (n1 c1 : Nat) (comms : List Int) (A2 : Option Addr) (n2 c2 : Nat) (raws : List RawV) (An : Option Addr) (nn cn : Nat) (news : List Pfx) (k : Nat) (w : World) (hg : DL rPfx 2 w (Lo w) Ag ng gone) (hp : DL rSeg 2 w (Lo w) A n path) (hc : NF w (Lo w) A1 n1 comms) (hd : DL rRaw 3 w (Lo w) A2 n2 raws) (hm : DL rPfx 2 w (Lo w) An nn news) (hk : k ≤ 100000) :
  Calls Tryz.prog 34 #[.agg #[.slice Ag ng cg, .int .i64 o, .slice A n c, .int .u32 nx, .int .i64 md, .int .i64 pf, .bool at_, .bool ha, .int .u32 gs, .int .u32 ga, .slice A1 n1 c1, .slice A2 n2 c2, .slice An nn cn], .int .i64 k] w fun en w' => en = .returned (.bool (fewU (⟨gone, ⟨o, path, nx, md, pf, at_, ha, gs, ga, comms, raws⟩, news⟩ : Upd) k)) ∧ Below w.heap.size w w' := by
 obtain ⟨r, hr⟩ : ∃ r, fewAt path comms raws = r := ⟨_, rfl⟩
 have HFW := Lib.hid (show ∀ w', DL rSeg 2 w' (Lo w') A n path → DL rRaw 3 w' (Lo w') A2 n2 raws → Calls Tryz.prog 79 #[.agg #[.int .i64 o, .slice A n c, .int .u32 nx, .int .i64 md, .int .i64 pf, .bool at_, .bool ha, .int .u32 gs, .int .u32 ga, .slice A1 n1 c1, .slice A2 n2 c2]] w' fun en w'' => en = .returned (.bool r) ∧ Below w'.heap.size w' w'' from fun w' h1 h2 => by rw [← hr]; exact law04Few o A n c path nx md pf at_ ha gs ga A1 n1 c1 comms A2 n2 c2 raws w' h1 hc.1 h2)
 have HV := Lib.hid (show fewU (⟨gone, ⟨o, path, nx, md, pf, at_, ha, gs, ga, comms, raws⟩, news⟩ : Upd) k = (r && decide (ng ≤ k) && decide (nn ≤ k)) by unfold fewU; rw [hg.len, hm.len, ← hr])
 obtain ⟨v, hv⟩ : ∃ v, fewU (⟨gone, ⟨o, path, nx, md, pf, at_, ha, gs, ga, comms, raws⟩, news⟩ : Upd) k = v := ⟨_, rfl⟩
 rw [hv] at HV ⊢
 clear hv hr
 obtain ⟨W, hW, hX, b0⟩ := box1c w #[.slice Ag ng cg, .int .i64 o, .slice A n c, .int .u32 nx, .int .i64 md, .int .i64 pf, .bool at_, .bool ha, .int .u32 gs, .int .u32 ga, .slice A1 n1 c1, .slice A2 n2 c2, .slice An nn cn] 77
 go_enter Tryz.func34, Tryz.ntmps34
 go_upto_region 1 with fail
 try rw [hW]
 obtain ⟨q, hq⟩ : ∃ q, w.heap.size = q := ⟨_, rfl⟩
 try rw [hq]
 rw [hq] at hX
 clear hW hq
 have c_hX0 := hX.cell 0
 have c_hX1 := hX.cell 1
 have c_hX2 := hX.cell 2
 have c_hX3 := hX.cell 3
 have c_hX4 := hX.cell 4
 have c_hX5 := hX.cell 5
 have c_hX6 := hX.cell 6
 have c_hX7 := hX.cell 7
 have c_hX8 := hX.cell 8
 have c_hX9 := hX.cell 9
 have c_hX10 := hX.cell 10
 have c_hX11 := hX.cell 11
 have c_hX12 := hX.cell 12
 go_wp2_with fail
 refine (HFW.out _ (hp.segB5 b0) (hd.rawB5 b0)).mono ?_
 rintro _ w1 ⟨rfl, b1⟩
 clear c_hX0 c_hX1 c_hX2 c_hX3 c_hX4 c_hX5 c_hX6 c_hX7 c_hX8 c_hX9 c_hX10 c_hX11 c_hX12
 have b01 := btr b0 b1 b0.size
 have hX_1 := hX.below b1 hX.lt
 have c_hX0 := hX_1.cell 0
 have c_hX1 := hX_1.cell 1
 have c_hX2 := hX_1.cell 2
 have c_hX3 := hX_1.cell 3
 have c_hX4 := hX_1.cell 4
 have c_hX5 := hX_1.cell 5
 have c_hX6 := hX_1.cell 6
 have c_hX7 := hX_1.cell 7
 have c_hX8 := hX_1.cell 8
 have c_hX9 := hX_1.cell 9
 have c_hX10 := hX_1.cell 10
 have c_hX11 := hX_1.cell 11
 have c_hX12 := hX_1.cell 12
 cases r
 ·have HE := Lib.hid (show v = false by rw [HV.out]; rfl)
  go_wp2_with fail
  go_ret
  exact ⟨by rw [HE.out]; rfl, b01⟩
 by_cases h1 : ng ≤ k
 case neg =>
  have t1 : decide ((ng : Int) ≤ k) = false := decide_eq_false (by omega)
  have t2 : decide (ng ≤ k) = false := decide_eq_false h1
  have HE := Lib.hid (show v = false by rw [HV.out, t2]; rfl)
  clear h1
  go_wp2_with fail
  go_ret
  exact ⟨by rw [HE.out]; rfl, b01⟩
 have t1 : decide ((ng : Int) ≤ k) = true := decide_eq_true (by omega)
 have t2 : decide (ng ≤ k) = true := decide_eq_true h1
 by_cases h2 : nn ≤ k
 case neg =>
  have t3 : decide ((nn : Int) ≤ k) = false := decide_eq_false (by omega)
  have t4 : decide (nn ≤ k) = false := decide_eq_false h2
  have HE := Lib.hid (show v = false by rw [HV.out, t2, t4]; rfl)
  clear h1 h2
  go_wp2_with fail
  go_ret
  exact ⟨by rw [HE.out]; rfl, b01⟩
 have t3 : decide ((nn : Int) ≤ k) = true := decide_eq_true (by omega)
 have t4 : decide (nn ≤ k) = true := decide_eq_true h2
 have HE := Lib.hid (show v = true by rw [HV.out, t2, t4]; rfl)
 clear h1 h2
 go_wp2_with fail
 go_ret
 exact ⟨by rw [HE.out]; rfl, b01⟩
set_option maxHeartbeats 4000000 in
set_option maxRecDepth 100000 in
theorem updSame5 (Ag : Option Addr) (ng cg : Nat) (gone : List Pfx) (o : Int) (A : Option Addr) (n c : Nat) (path : List Seg) (nx md pf : Int) (at_ ha : Bool) (gs ga : Int) (A1 : Option Addr) (n1 c1 : Nat) (comms : List Int) (A2 : Option Addr) (n2 c2 : Nat) (raws : List RawV) (An : Option Addr) (nn cn : Nat) (news : List Pfx) (Ag' : Option Addr) (cg' : Nat) (A' : Option Addr) (c' : Nat) (A1' : Option Addr) (c1' : Nat) (A2' : Option Addr) (c2' : Nat) (An' : Option Addr) (cn' : Nat) (w : World) (hg : DL rPfx 2 w (Lo w) Ag ng gone) (hp : DL rSeg 2 w (Lo w) A n path) (hc : NF w (Lo w) A1 n1 comms) (hd : DL rRaw 3 w (Lo w) A2 n2 raws) (hm : DL rPfx 2 w (Lo w) An nn news) (hg' : DL rPfx 2 w (Lo w) Ag' ng gone) (hp' : DL rSeg 2 w (Lo w) A' n path) (hc' : NF w (Lo w) A1' n1 comms) (hd' : DL rRaw 3 w (Lo w) A2' n2 raws) (hm' : DL rPfx 2 w (Lo w) An' nn news) (hn : n ≤ 100000) (hs : Hid (sumN path ≤ big32)) (hn1 : n1 ≤ 100000) (hn2 : n2 ≤ 100000) (hr : Hid (∀ x ∈ raws, x.2.2.length ≤ 100000)) (hng : ng ≤ 1000000) (hnn : nn ≤ 1000000) :
  Calls Tryz.prog 80 #[.agg #[.slice Ag ng cg, .int .i64 o, .slice A n c, .int .u32 nx, .int .i64 md, .int .i64 pf, .bool at_, .bool ha, .int .u32 gs, .int .u32 ga, .slice A1 n1 c1, .slice A2 n2 c2, .slice An nn cn], .agg #[.slice Ag' ng cg', .int .i64 o, .slice A' n c', .int .u32 nx, .int .i64 md, .int .i64 pf, .bool at_, .bool ha, .int .u32 gs, .int .u32 ga, .slice A1' n1 c1', .slice A2' n2 c2', .slice An' nn cn']] w fun en w' => en = .returned (.bool true) ∧ Below w.heap.size w w' := by
 have HSM := Lib.hid (show ∀ w', DL rSeg 2 w' (Lo w') A n path → NF w' (Lo w') A1 n1 comms → DL rRaw 3 w' (Lo w') A2 n2 raws → DL rSeg 2 w' (Lo w') A' n path → NF w' (Lo w') A1' n1 comms → DL rRaw 3 w' (Lo w') A2' n2 raws → Calls Tryz.prog 133 #[.agg #[.int .i64 o, .slice A n c, .int .u32 nx, .int .i64 md, .int .i64 pf, .bool at_, .bool ha, .int .u32 gs, .int .u32 ga, .slice A1 n1 c1, .slice A2 n2 c2], .agg #[.int .i64 o, .slice A' n c', .int .u32 nx, .int .i64 md, .int .i64 pf, .bool at_, .bool ha, .int .u32 gs, .int .u32 ga, .slice A1' n1 c1', .slice A2' n2 c2']] w' fun en w'' => en = .returned (.bool true) ∧ Below w'.heap.size w' w'' from fun w' h1 h2 h3 h4 h5 h6 => by
  have e : sameAt (⟨o, path, nx, md, pf, at_, ha, gs, ga, comms, raws⟩ : At) (⟨o, path, nx, md, pf, at_, ha, gs, ga, comms, raws⟩ : At) = true := sameAt_iff.2 rfl
  rw [← e]
  exact attSame o A n c path nx md pf at_ ha gs ga A1 n1 c1 comms A2 n2 c2 raws o A' n c' path nx md pf at_ ha gs ga A1' n1 c1' comms A2' n2 c2' raws w' h1 h2 h3 h4 h5 h6 hn hs hn1 hn2 hr)
 obtain ⟨W, hW, hX, hY, b0⟩ := boxes2 w #[.slice Ag ng cg, .int .i64 o, .slice A n c, .int .u32 nx, .int .i64 md, .int .i64 pf, .bool at_, .bool ha, .int .u32 gs, .int .u32 ga, .slice A1 n1 c1, .slice A2 n2 c2, .slice An nn cn] #[.slice Ag' ng cg', .int .i64 o, .slice A' n c', .int .u32 nx, .int .i64 md, .int .i64 pf, .bool at_, .bool ha, .int .u32 gs, .int .u32 ga, .slice A1' n1 c1', .slice A2' n2 c2', .slice An' nn cn'] 77 77
 go_enter Tryz.func80, Tryz.ntmps80
 go_upto_region 1 with fail
 try rw [hW]
 obtain ⟨q, hq⟩ : ∃ q, w.heap.size = q := ⟨_, rfl⟩
 try rw [hq]
 rw [hq] at hX hY
 clear hW hq hs hr
 have c_hX0 := hX.cell 0
 have c_hX1 := hX.cell 1
 have c_hX2 := hX.cell 2
 have c_hX3 := hX.cell 3
 have c_hX4 := hX.cell 4
 have c_hX5 := hX.cell 5
 have c_hX6 := hX.cell 6
 have c_hX7 := hX.cell 7
 have c_hX8 := hX.cell 8
 have c_hX9 := hX.cell 9
 have c_hX10 := hX.cell 10
 have c_hX11 := hX.cell 11
 have c_hX12 := hX.cell 12
 have c_hY0 := hY.cell 0
 have c_hY1 := hY.cell 1
 have c_hY2 := hY.cell 2
 have c_hY3 := hY.cell 3
 have c_hY4 := hY.cell 4
 have c_hY5 := hY.cell 5
 have c_hY6 := hY.cell 6
 have c_hY7 := hY.cell 7
 have c_hY8 := hY.cell 8
 have c_hY9 := hY.cell 9
 have c_hY10 := hY.cell 10
 have c_hY11 := hY.cell 11
 have c_hY12 := hY.cell 12
 go_wp2_with fail
 refine (equalP Ag Ag' ng cg cg' gone _ (hg.pfxB5 b0) (hg'.pfxB5 b0) hng).mono ?_
 rintro _ w1 ⟨rfl, b1⟩
 clear c_hX0 c_hX1 c_hX2 c_hX3 c_hX4 c_hX5 c_hX6 c_hX7 c_hX8 c_hX9 c_hX10 c_hX11 c_hX12 c_hY0 c_hY1 c_hY2 c_hY3 c_hY4 c_hY5 c_hY6 c_hY7 c_hY8 c_hY9 c_hY10 c_hY11 c_hY12
 have b01 := btr b0 b1 b0.size
 have hX_1 := hX.below b1 hX.lt
 have hY_1 := hY.below b1 hY.lt
 have c_hX0 := hX_1.cell 0
 have c_hX1 := hX_1.cell 1
 have c_hX2 := hX_1.cell 2
 have c_hX3 := hX_1.cell 3
 have c_hX4 := hX_1.cell 4
 have c_hX5 := hX_1.cell 5
 have c_hX6 := hX_1.cell 6
 have c_hX7 := hX_1.cell 7
 have c_hX8 := hX_1.cell 8
 have c_hX9 := hX_1.cell 9
 have c_hX10 := hX_1.cell 10
 have c_hX11 := hX_1.cell 11
 have c_hX12 := hX_1.cell 12
 have c_hY0 := hY_1.cell 0
 have c_hY1 := hY_1.cell 1
 have c_hY2 := hY_1.cell 2
 have c_hY3 := hY_1.cell 3
 have c_hY4 := hY_1.cell 4
 have c_hY5 := hY_1.cell 5
 have c_hY6 := hY_1.cell 6
 have c_hY7 := hY_1.cell 7
 have c_hY8 := hY_1.cell 8
 have c_hY9 := hY_1.cell 9
 have c_hY10 := hY_1.cell 10
 have c_hY11 := hY_1.cell 11
 have c_hY12 := hY_1.cell 12
 go_wp2_with fail
 refine (equalP An An' nn cn cn' news _ (hm.pfxB5 b01) (hm'.pfxB5 b01) hnn).mono ?_
 rintro _ w2 ⟨rfl, b2⟩
 clear c_hX0 c_hX1 c_hX2 c_hX3 c_hX4 c_hX5 c_hX6 c_hX7 c_hX8 c_hX9 c_hX10 c_hX11 c_hX12 c_hY0 c_hY1 c_hY2 c_hY3 c_hY4 c_hY5 c_hY6 c_hY7 c_hY8 c_hY9 c_hY10 c_hY11 c_hY12
 have b02 := btr b01 b2 b01.size
 have hX_2 := hX_1.below b2 hX_1.lt
 clear hX_1
 have hY_2 := hY_1.below b2 hY_1.lt
 clear hY_1
 have c_hX0 := hX_2.cell 0
 have c_hX1 := hX_2.cell 1
 have c_hX2 := hX_2.cell 2
 have c_hX3 := hX_2.cell 3
 have c_hX4 := hX_2.cell 4
 have c_hX5 := hX_2.cell 5
 have c_hX6 := hX_2.cell 6
 have c_hX7 := hX_2.cell 7
 have c_hX8 := hX_2.cell 8
 have c_hX9 := hX_2.cell 9
 have c_hX10 := hX_2.cell 10
 have c_hX11 := hX_2.cell 11
 have c_hX12 := hX_2.cell 12
 have c_hY0 := hY_2.cell 0
 have c_hY1 := hY_2.cell 1
 have c_hY2 := hY_2.cell 2
 have c_hY3 := hY_2.cell 3
 have c_hY4 := hY_2.cell 4
 have c_hY5 := hY_2.cell 5
 have c_hY6 := hY_2.cell 6
 have c_hY7 := hY_2.cell 7
 have c_hY8 := hY_2.cell 8
 have c_hY9 := hY_2.cell 9
 have c_hY10 := hY_2.cell 10
 have c_hY11 := hY_2.cell 11
 have c_hY12 := hY_2.cell 12
 go_wp2_with fail
 refine (HSM.out _ (hp.segB5 b02) (hc.numB5 b02) (hd.rawB5 b02) (hp'.segB5 b02) (hc'.numB5 b02) (hd'.rawB5 b02)).mono ?_
 rintro _ w3 ⟨rfl, b3⟩
 clear c_hX0 c_hX1 c_hX2 c_hX3 c_hX4 c_hX5 c_hX6 c_hX7 c_hX8 c_hX9 c_hX10 c_hX11 c_hX12 c_hY0 c_hY1 c_hY2 c_hY3 c_hY4 c_hY5 c_hY6 c_hY7 c_hY8 c_hY9 c_hY10 c_hY11 c_hY12
 have b03 := btr b02 b3 b02.size
 have hX_3 := hX_2.below b3 hX_2.lt
 clear hX_2
 have hY_3 := hY_2.below b3 hY_2.lt
 clear hY_2
 have c_hX0 := hX_3.cell 0
 have c_hX1 := hX_3.cell 1
 have c_hX2 := hX_3.cell 2
 have c_hX3 := hX_3.cell 3
 have c_hX4 := hX_3.cell 4
 have c_hX5 := hX_3.cell 5
 have c_hX6 := hX_3.cell 6
 have c_hX7 := hX_3.cell 7
 have c_hX8 := hX_3.cell 8
 have c_hX9 := hX_3.cell 9
 have c_hX10 := hX_3.cell 10
 have c_hX11 := hX_3.cell 11
 have c_hX12 := hX_3.cell 12
 have c_hY0 := hY_3.cell 0
 have c_hY1 := hY_3.cell 1
 have c_hY2 := hY_3.cell 2
 have c_hY3 := hY_3.cell 3
 have c_hY4 := hY_3.cell 4
 have c_hY5 := hY_3.cell 5
 have c_hY6 := hY_3.cell 6
 have c_hY7 := hY_3.cell 7
 have c_hY8 := hY_3.cell 8
 have c_hY9 := hY_3.cell 9
 have c_hY10 := hY_3.cell 10
 have c_hY11 := hY_3.cell 11
 have c_hY12 := hY_3.cell 12
 go_wp2_with fail
 go_ret
 exact ⟨rfl, b03⟩
set_option maxHeartbeats 4000000 in
set_option maxRecDepth 100000 in
theorem refSame05 (Ag : Option Addr) (ng cg : Nat) (gone : List Pfx) (o : Int) (A : Option Addr) (n c : Nat) (path : List Seg) (nx md pf : Int) (at_ ha : Bool) (gs ga : Int) (A1 : Option Addr) (n1 c1 : Nat) (comms : List Int) (A2 : Option Addr) (n2 c2 : Nat) (raws : List RawV) (An : Option Addr) (nn cn : Nat) (news : List Pfx) (Ag' : Option Addr) (cg' : Nat) (A' : Option Addr) (c' : Nat) (A1' : Option Addr) (c1' : Nat) (A2' : Option Addr) (c2' : Nat) (An' : Option Addr) (cn' : Nat) (w : World) (hg : DL rPfx 2 w (Lo w) Ag ng gone) (hp : DL rSeg 2 w (Lo w) A n path) (hc : NF w (Lo w) A1 n1 comms) (hd : DL rRaw 3 w (Lo w) A2 n2 raws) (hm : DL rPfx 2 w (Lo w) An nn news) (hg' : DL rPfx 2 w (Lo w) Ag' ng gone) (hp' : DL rSeg 2 w (Lo w) A' n path) (hc' : NF w (Lo w) A1' n1 comms) (hd' : DL rRaw 3 w (Lo w) A2' n2 raws) (hm' : DL rPfx 2 w (Lo w) An' nn news) (hn : n ≤ 100000) (hs : Hid (sumN path ≤ big32)) (hn1 : n1 ≤ 100000) (hn2 : n2 ≤ 100000) (hr : Hid (∀ x ∈ raws, x.2.2.length ≤ 100000)) (hng : ng ≤ 1000000) (hnn : nn ≤ 1000000) :
  Calls Tryz.prog 41 #[.agg #[.slice Ag ng cg, .int .i64 o, .slice A n c, .int .u32 nx, .int .i64 md, .int .i64 pf, .bool at_, .bool ha, .int .u32 gs, .int .u32 ga, .slice A1 n1 c1, .slice A2 n2 c2, .slice An nn cn], .agg #[.slice Ag' ng cg', .int .i64 o, .slice A' n c', .int .u32 nx, .int .i64 md, .int .i64 pf, .bool at_, .bool ha, .int .u32 gs, .int .u32 ga, .slice A1' n1 c1', .slice A2' n2 c2', .slice An' nn cn']] w fun en w' => en = .returned (.bool true) ∧ Below w.heap.size w w' := by
 have HSM := Lib.hid (show ∀ w', DL rSeg 2 w' (Lo w') A n path → NF w' (Lo w') A1 n1 comms → DL rRaw 3 w' (Lo w') A2 n2 raws → DL rSeg 2 w' (Lo w') A' n path → NF w' (Lo w') A1' n1 comms → DL rRaw 3 w' (Lo w') A2' n2 raws → Calls Tryz.prog 96 #[.agg #[.int .i64 o, .slice A n c, .int .u32 nx, .int .i64 md, .int .i64 pf, .bool at_, .bool ha, .int .u32 gs, .int .u32 ga, .slice A1 n1 c1, .slice A2 n2 c2], .agg #[.int .i64 o, .slice A' n c', .int .u32 nx, .int .i64 md, .int .i64 pf, .bool at_, .bool ha, .int .u32 gs, .int .u32 ga, .slice A1' n1 c1', .slice A2' n2 c2']] w' fun en w'' => en = .returned (.bool true) ∧ Below w'.heap.size w' w'' from fun w' h1 h2 h3 h4 h5 h6 => by
  have e : sameAt (⟨o, path, nx, md, pf, at_, ha, gs, ga, comms, raws⟩ : At) (⟨o, path, nx, md, pf, at_, ha, gs, ga, comms, raws⟩ : At) = true := sameAt_iff.2 rfl
  rw [← e]
  exact refSame04 o A n c path nx md pf at_ ha gs ga A1 n1 c1 comms A2 n2 c2 raws o A' n c' path nx md pf at_ ha gs ga A1' n1 c1' comms A2' n2 c2' raws w' h1 h2 h3 h4 h5 h6 hn hs hn1 hn2 hr)
 obtain ⟨W, hW, hX, hY, b0⟩ := boxes2 w #[.slice Ag ng cg, .int .i64 o, .slice A n c, .int .u32 nx, .int .i64 md, .int .i64 pf, .bool at_, .bool ha, .int .u32 gs, .int .u32 ga, .slice A1 n1 c1, .slice A2 n2 c2, .slice An nn cn] #[.slice Ag' ng cg', .int .i64 o, .slice A' n c', .int .u32 nx, .int .i64 md, .int .i64 pf, .bool at_, .bool ha, .int .u32 gs, .int .u32 ga, .slice A1' n1 c1', .slice A2' n2 c2', .slice An' nn cn'] 77 77
 go_enter Tryz.func41, Tryz.ntmps41
 go_upto_region 1 with fail
 try rw [hW]
 obtain ⟨q, hq⟩ : ∃ q, w.heap.size = q := ⟨_, rfl⟩
 try rw [hq]
 rw [hq] at hX hY
 clear hW hq hs hr
 have c_hX0 := hX.cell 0
 have c_hX1 := hX.cell 1
 have c_hX2 := hX.cell 2
 have c_hX3 := hX.cell 3
 have c_hX4 := hX.cell 4
 have c_hX5 := hX.cell 5
 have c_hX6 := hX.cell 6
 have c_hX7 := hX.cell 7
 have c_hX8 := hX.cell 8
 have c_hX9 := hX.cell 9
 have c_hX10 := hX.cell 10
 have c_hX11 := hX.cell 11
 have c_hX12 := hX.cell 12
 have c_hY0 := hY.cell 0
 have c_hY1 := hY.cell 1
 have c_hY2 := hY.cell 2
 have c_hY3 := hY.cell 3
 have c_hY4 := hY.cell 4
 have c_hY5 := hY.cell 5
 have c_hY6 := hY.cell 6
 have c_hY7 := hY.cell 7
 have c_hY8 := hY.cell 8
 have c_hY9 := hY.cell 9
 have c_hY10 := hY.cell 10
 have c_hY11 := hY.cell 11
 have c_hY12 := hY.cell 12
 go_wp2_with fail
 refine (refSame02 Ag Ag' ng cg cg' gone _ (hg.pfxB5 b0) (hg'.pfxB5 b0) hng).mono ?_
 rintro _ w1 ⟨rfl, b1⟩
 clear c_hX0 c_hX1 c_hX2 c_hX3 c_hX4 c_hX5 c_hX6 c_hX7 c_hX8 c_hX9 c_hX10 c_hX11 c_hX12 c_hY0 c_hY1 c_hY2 c_hY3 c_hY4 c_hY5 c_hY6 c_hY7 c_hY8 c_hY9 c_hY10 c_hY11 c_hY12
 have b01 := btr b0 b1 b0.size
 have hX_1 := hX.below b1 hX.lt
 have hY_1 := hY.below b1 hY.lt
 have c_hX0 := hX_1.cell 0
 have c_hX1 := hX_1.cell 1
 have c_hX2 := hX_1.cell 2
 have c_hX3 := hX_1.cell 3
 have c_hX4 := hX_1.cell 4
 have c_hX5 := hX_1.cell 5
 have c_hX6 := hX_1.cell 6
 have c_hX7 := hX_1.cell 7
 have c_hX8 := hX_1.cell 8
 have c_hX9 := hX_1.cell 9
 have c_hX10 := hX_1.cell 10
 have c_hX11 := hX_1.cell 11
 have c_hX12 := hX_1.cell 12
 have c_hY0 := hY_1.cell 0
 have c_hY1 := hY_1.cell 1
 have c_hY2 := hY_1.cell 2
 have c_hY3 := hY_1.cell 3
 have c_hY4 := hY_1.cell 4
 have c_hY5 := hY_1.cell 5
 have c_hY6 := hY_1.cell 6
 have c_hY7 := hY_1.cell 7
 have c_hY8 := hY_1.cell 8
 have c_hY9 := hY_1.cell 9
 have c_hY10 := hY_1.cell 10
 have c_hY11 := hY_1.cell 11
 have c_hY12 := hY_1.cell 12
 go_wp2_with fail
 refine (refSame02 An An' nn cn cn' news _ (hm.pfxB5 b01) (hm'.pfxB5 b01) hnn).mono ?_
 rintro _ w2 ⟨rfl, b2⟩
 clear c_hX0 c_hX1 c_hX2 c_hX3 c_hX4 c_hX5 c_hX6 c_hX7 c_hX8 c_hX9 c_hX10 c_hX11 c_hX12 c_hY0 c_hY1 c_hY2 c_hY3 c_hY4 c_hY5 c_hY6 c_hY7 c_hY8 c_hY9 c_hY10 c_hY11 c_hY12
 have b02 := btr b01 b2 b01.size
 have hX_2 := hX_1.below b2 hX_1.lt
 clear hX_1
 have hY_2 := hY_1.below b2 hY_1.lt
 clear hY_1
 have c_hX0 := hX_2.cell 0
 have c_hX1 := hX_2.cell 1
 have c_hX2 := hX_2.cell 2
 have c_hX3 := hX_2.cell 3
 have c_hX4 := hX_2.cell 4
 have c_hX5 := hX_2.cell 5
 have c_hX6 := hX_2.cell 6
 have c_hX7 := hX_2.cell 7
 have c_hX8 := hX_2.cell 8
 have c_hX9 := hX_2.cell 9
 have c_hX10 := hX_2.cell 10
 have c_hX11 := hX_2.cell 11
 have c_hX12 := hX_2.cell 12
 have c_hY0 := hY_2.cell 0
 have c_hY1 := hY_2.cell 1
 have c_hY2 := hY_2.cell 2
 have c_hY3 := hY_2.cell 3
 have c_hY4 := hY_2.cell 4
 have c_hY5 := hY_2.cell 5
 have c_hY6 := hY_2.cell 6
 have c_hY7 := hY_2.cell 7
 have c_hY8 := hY_2.cell 8
 have c_hY9 := hY_2.cell 9
 have c_hY10 := hY_2.cell 10
 have c_hY11 := hY_2.cell 11
 have c_hY12 := hY_2.cell 12
 go_wp2_with fail
 refine (HSM.out _ (hp.segB5 b02) (hc.numB5 b02) (hd.rawB5 b02) (hp'.segB5 b02) (hc'.numB5 b02) (hd'.rawB5 b02)).mono ?_
 rintro _ w3 ⟨rfl, b3⟩
 clear c_hX0 c_hX1 c_hX2 c_hX3 c_hX4 c_hX5 c_hX6 c_hX7 c_hX8 c_hX9 c_hX10 c_hX11 c_hX12 c_hY0 c_hY1 c_hY2 c_hY3 c_hY4 c_hY5 c_hY6 c_hY7 c_hY8 c_hY9 c_hY10 c_hY11 c_hY12
 have b03 := btr b02 b3 b02.size
 have hX_3 := hX_2.below b3 hX_2.lt
 clear hX_2
 have hY_3 := hY_2.below b3 hY_2.lt
 clear hY_2
 have c_hX0 := hX_3.cell 0
 have c_hX1 := hX_3.cell 1
 have c_hX2 := hX_3.cell 2
 have c_hX3 := hX_3.cell 3
 have c_hX4 := hX_3.cell 4
 have c_hX5 := hX_3.cell 5
 have c_hX6 := hX_3.cell 6
 have c_hX7 := hX_3.cell 7
 have c_hX8 := hX_3.cell 8
 have c_hX9 := hX_3.cell 9
 have c_hX10 := hX_3.cell 10
 have c_hX11 := hX_3.cell 11
 have c_hX12 := hX_3.cell 12
 have c_hY0 := hY_3.cell 0
 have c_hY1 := hY_3.cell 1
 have c_hY2 := hY_3.cell 2
 have c_hY3 := hY_3.cell 3
 have c_hY4 := hY_3.cell 4
 have c_hY5 := hY_3.cell 5
 have c_hY6 := hY_3.cell 6
 have c_hY7 := hY_3.cell 7
 have c_hY8 := hY_3.cell 8
 have c_hY9 := hY_3.cell 9
 have c_hY10 := hY_3.cell 10
 have c_hY11 := hY_3.cell 11
 have c_hY12 := hY_3.cell 12
 go_wp2_with fail
 go_ret
 exact ⟨rfl, b03⟩
def exU : Upd := ⟨[(167772160, 8)], noAt, []⟩
def exB5 : List UInt8 := [0, 2, 8, 10, 0, 0]
theorem exPut5 : updPut true exU = (exB5, 0) := by decide +kernel
theorem exRead5 : updRead exB5 true false 0 = .ok exU := by kernel_rfl
set_option maxHeartbeats 4000000 in
set_option maxRecDepth 100000 in
theorem awake05 (w : World) (ht : LookTab w) : Calls Tryz.prog 35 #[] w fun en w' => en = .returned (.bool true) ∧ Below w.heap.size w w' := by
 have HPU := Lib.hid (show ∀ (g : Nat) w', LookTab w' → DL rPfx 2 w' (Lo w') (some ⟨g, 0, none⟩) 1 [(167772160, 8)] → Calls Tryz.prog 36 #[.agg #[.slice (some ⟨g, 0, none⟩) 1 1, .int .i64 0, .slice none 0 0, .int .u32 0, .int .i64 0, .int .i64 0, .bool false, .bool false, .int .u32 0, .int .u32 0, .slice none 0 0, .slice none 0 0, .slice none 0 0], .bool true] w' (RetPut w' exB5 0) from fun g w' h1 h2 => by
  have := updPut5 true (some ⟨g, 0, none⟩) 1 1 [(167772160, 8)] 0 none 0 0 [] 0 0 0 false false 0 0 none 0 0 [] none 0 0 [] none 0 0 [] w' h2 DL.none_ NF.none_ DL.none_ DL.none_ (Lib.hid (by decide)) (Lib.hid (by decide)) ⟨by omega, by omega, by omega, by omega⟩ h1
  have e : updPut true (⟨[(167772160, 8)], ⟨0, [], 0, 0, 0, false, false, 0, 0, [], []⟩, []⟩ : Upd) = (exB5, 0) := exPut5
  rw [e] at this
  exact this)
 have HRD := Lib.hid (show ∀ (A : Option Addr) (c : Nat) w', LookTab w' → BS w' w'.heap.size A 6 exB5 → Calls Tryz.prog 40 #[.slice A 6 c, .bool true, .bool false, .int .u32 0] w' (RetUX w' [] (.ok exU)) from fun A c w' h1 h2 => by
  rw [← exRead5]
  exact updReadX [] A 6 c exB5 true false 0 w' (fun x hx => by cases hx) h2 (by omega) h1)
 have HSM := Lib.hid (show ∀ (A : Option Addr) (c : Nat) (A0 : Option Addr) (c0 : Nat) (A1 : Option Addr) (c1 : Nat) (A2 : Option Addr) (c2 : Nat) (A3 : Option Addr) (c3 : Nat) w', DL rPfx 2 w' (Lo w') A 1 [(167772160, 8)] → DL rSeg 2 w' (Lo w') A0 0 [] → NF w' (Lo w') A1 0 [] → DL rRaw 3 w' (Lo w') A2 0 [] → DL rPfx 2 w' (Lo w') A3 0 [] → Calls Tryz.prog 80 #[.agg #[.slice A 1 c, .int .i64 0, .slice A0 0 c0, .int .u32 0, .int .i64 0, .int .i64 0, .bool false, .bool false, .int .u32 0, .int .u32 0, .slice A1 0 c1, .slice A2 0 c2, .slice A3 0 c3], .agg #[.slice A 1 c, .int .i64 0, .slice A0 0 c0, .int .u32 0, .int .i64 0, .int .i64 0, .bool false, .bool false, .int .u32 0, .int .u32 0, .slice A1 0 c1, .slice A2 0 c2, .slice A3 0 c3]] w' fun en w'' => en = .returned (.bool true) ∧ Below w'.heap.size w' w'' from fun A c A0 c0 A1 c1 A2 c2 A3 c3 w' h1 h2 h3 h4 h5 =>
  updSame5 A 1 c [(167772160, 8)] 0 A0 0 c0 [] 0 0 0 false false 0 0 A1 0 c1 [] A2 0 c2 [] A3 0 c3 [] A c A0 c0 A1 c1 A2 c2 A3 c3 w' h1 h2 h3 h4 h5 h1 h2 h3 h4 h5 (by omega) (Lib.hid (by decide)) (by omega) (by omega) (Lib.hid (fun x hx => by cases hx)) (by omega) (by omega))
 obtain ⟨W, hW, hX, b0⟩ := box1c w #[.int .u32 167772160, .int .i64 8] 146
 have hd0 : DL rPfx 2 W (Lo W) (some ⟨w.heap.size, 0, none⟩) 1 [(167772160, 8)] := DL.one rPfx_ok (cs := [.int .u32 167772160, .int .i64 8]) hX (show _ < _ from hX.lt) ⟨rfl, by decide, by decide⟩
 have ht0 := ht.call b0
 subst hW
 go_enter Tryz.func35, Tryz.ntmps35
 go_wp2_with fail
 refine (HPU.out _ _ ht0 hd0).mono ?_
 rintro _ w1 ⟨A1, n1, c1, rfl, o1, b1⟩
 have b01 := btr b0 b1 b0.size
 have hn1 : n1 = 6 := o1.1
 subst hn1
 have ob1 := o1.bs
 clear hd0 ht0 hX
 go_wp2_with fail
 refine (HRD.out A1 c1 _ (ht.call b01) ob1).mono ?_
 rintro _ w2 ⟨b2, hm⟩
 obtain ⟨Ag, ng, cg, A, n, c, A2, n2, c2, A3, n3, c3, An, nn, cn, rfl, d1, d2, d3, d4, d5, hbd⟩ := hm
 simp only [exU, noAt] at d1 d2 d3 d4 d5
 have e1 : ng = 1 := d1.len
 have e2 : n = 0 := d2.len
 have e3 : n2 = 0 := d3.1
 have e4 : n3 = 0 := d4.len
 have e5 : nn = 0 := d5.len
 subst e1 e2 e3 e4 e5
 simp only [exU, noAt]
 have ob2 := ob1.call b2
 have b02 := btr b01 b2 b01.size
 go_upto_region 3 with fail
 obtain ⟨W3, hW3, hX, hF, b3⟩ := boxes2 w2 #[.slice Ag 1 cg, .int .i64 0, .slice A 0 c, .int .u32 0, .int .i64 0, .int .i64 0, .bool false, .bool false, .int .u32 0, .int .u32 0, .slice A2 0 c2, .slice A3 0 c3, .slice An 0 cn] #[.int .i64 0, .int .i64 0, .slice none 0 0] 77 88
 have b03 := btr b02 b3 b02.size
 have f1 := d1.keep (S' := Lo W3) rPfx_ok (fun b hb => ⟨Nat.lt_of_lt_of_le hb.1 b3.size, b3.block b hb.1⟩)
 have f2 := d2.keep (S' := Lo W3) rSeg_ok (fun b hb => ⟨Nat.lt_of_lt_of_le hb.1 b3.size, b3.block b hb.1⟩)
 have f3 := d3.keep (S' := Lo W3) (fun b hb => ⟨Nat.lt_of_lt_of_le hb.1 b3.size, b3.block b hb.1⟩)
 have f4 := d4.keep (S' := Lo W3) rRaw_ok (fun b hb => ⟨Nat.lt_of_lt_of_le hb.1 b3.size, b3.block b hb.1⟩)
 have f5 := d5.keep (S' := Lo W3) rPfx_ok (fun b hb => ⟨Nat.lt_of_lt_of_le hb.1 b3.size, b3.block b hb.1⟩)
 have kc := (ob2.call b3).conv (P := Tryz.prog) 38 9 5 c1 Tryz.underlying38 Tryz.underlying5 Tryz.underlying9
 unfold exB5 at kc
 have fx0 := hF.cell 0
 try rw [hW3]
 obtain ⟨q3, hq3⟩ : ∃ q, w2.heap.size = q := ⟨_, rfl⟩
 try rw [hq3]
 rw [hq3] at hX fx0
 have y0 := hX.cell 0
 have y1 := hX.cell 1
 have y2 := hX.cell 2
 have y3 := hX.cell 3
 have y4 := hX.cell 4
 have y5 := hX.cell 5
 have y6 := hX.cell 6
 have y7 := hX.cell 7
 have y8 := hX.cell 8
 have y9 := hX.cell 9
 have y10 := hX.cell 10
 have y11 := hX.cell 11
 have y12 := hX.cell 12
 clear hW3 hq3 d1 d2 d3 d4 d5 hX hF hbd
 go_wp2_with fail
 refine (HSM.out Ag cg A c A2 c2 A3 c3 An cn W3 f1 f2 f3 f4 f5).mono ?_
 rintro _ w4 ⟨rfl, b4⟩
 go_wp2_with fail
 go_ret
 exact ⟨rfl, btr b03 b4 b03.size⟩
end Go.Proofs.YthgjknmfghjioaaGreatDoor

namespace Go.Proofs.YthgjknmfghjioaaGreatDoor
open Go.RowKit
set_option linter.unusedSimpArgs false
set_option linter.unusedVariables false
set_option maxHeartbeats 16000000 in
set_option maxRecDepth 100000 in
theorem lawUpdatePuts (w : World) (Ag : Option Addr) (ng cg : Nat) (gone : List Pfx) (o : Int) (A : Option Addr) (n c : Nat) (path : List Seg) (nx md pf : Int) (at_ ha : Bool) (gs ga : Int) (A1 : Option Addr) (n1 c1 : Nat) (comms : List Int) (A2 : Option Addr) (n2 c2 : Nat) (raws : List RawV) (An : Option Addr) (nn cn : Nat) (news : List Pfx) (hg : DL rPfx 2 w (Lo w) Ag ng gone) (hp : DL rSeg 2 w (Lo w) A n path) (hc : NF w (Lo w) A1 n1 comms) (hd : DL rRaw 3 w (Lo w) A2 n2 raws) (hm : DL rPfx 2 w (Lo w) An nn news) (hwf : 0 ≤ nx ∧ nx < 4294967296 ∧ 0 ≤ gs ∧ gs < 4294967296 ∧ 0 ≤ ga ∧ ga < 4294967296) (hrm : ∀ x ∈ path, x.2.length ≤ big32) (wide : Bool) (ht : LookTab w) :
  Calls Tryz.prog 5 #[.agg #[.slice Ag ng cg, .int .i64 o, .slice A n c, .int .u32 nx, .int .i64 md, .int .i64 pf, .bool at_, .bool ha, .int .u32 gs, .int .u32 ga, .slice A1 n1 c1, .slice A2 n2 c2, .slice An nn cn], .bool wide] w fun en w' => en = .returned (.bool true) ∧ Below w.heap.size w w' := by
 obtain ⟨r, hr⟩ : ∃ r, fewU (⟨gone, ⟨o, path, nx, md, pf, at_, ha, gs, ga, comms, raws⟩, news⟩ : Upd) 1000 = r := ⟨_, rfl⟩
 have HFW := Lib.hid (show ∀ w', DL rPfx 2 w' (Lo w') Ag ng gone → DL rSeg 2 w' (Lo w') A n path → NF w' (Lo w') A1 n1 comms → DL rRaw 3 w' (Lo w') A2 n2 raws → DL rPfx 2 w' (Lo w') An nn news → Calls Tryz.prog 34 #[.agg #[.slice Ag ng cg, .int .i64 o, .slice A n c, .int .u32 nx, .int .i64 md, .int .i64 pf, .bool at_, .bool ha, .int .u32 gs, .int .u32 ga, .slice A1 n1 c1, .slice A2 n2 c2, .slice An nn cn], .int .i64 (1000 : Nat)] w' fun en w'' => en = .returned (.bool r) ∧ Below w'.heap.size w' w'' from fun w' h1 h2 h3 h4 h5 => by rw [← hr]; exact law05Few Ag ng cg gone o A n c path nx md pf at_ ha gs ga A1 n1 c1 comms A2 n2 c2 raws An nn cn news 1000 w' h1 h2 h3 h4 h5 (by omega))
 have HAW := Lib.hid (show ∀ w', LookTab w' → Calls Tryz.prog 35 #[] w' fun en w'' => en = .returned (.bool true) ∧ Below w'.heap.size w' w'' from fun w' h => awake05 w' h)
 cases r
 case false =>
  clear hr hrm hwf
  obtain ⟨W, hW, hX, b0⟩ := box1c w #[.slice Ag ng cg, .int .i64 o, .slice A n c, .int .u32 nx, .int .i64 md, .int .i64 pf, .bool at_, .bool ha, .int .u32 gs, .int .u32 ga, .slice A1 n1 c1, .slice A2 n2 c2, .slice An nn cn] 77
  go_enter Tryz.func5, Tryz.ntmps5
  go_upto_region 1 with fail
  try rw [hW]
  obtain ⟨q, hq⟩ : ∃ q, w.heap.size = q := ⟨_, rfl⟩
  try rw [hq]
  rw [hq] at hX
  clear hW hq
  have c_hX0 := hX.cell 0
  have c_hX1 := hX.cell 1
  have c_hX2 := hX.cell 2
  have c_hX3 := hX.cell 3
  have c_hX4 := hX.cell 4
  have c_hX5 := hX.cell 5
  have c_hX6 := hX.cell 6
  have c_hX7 := hX.cell 7
  have c_hX8 := hX.cell 8
  have c_hX9 := hX.cell 9
  have c_hX10 := hX.cell 10
  have c_hX11 := hX.cell 11
  have c_hX12 := hX.cell 12
  go_wp2_with fail
  refine (HFW.out _ (hg.pfxB5 b0) (hp.segB5 b0) (hc.numB5 b0) (hd.rawB5 b0) (hm.pfxB5 b0)).mono ?_
  rintro _ w1 ⟨rfl, b1⟩
  clear c_hX0 c_hX1 c_hX2 c_hX3 c_hX4 c_hX5 c_hX6 c_hX7 c_hX8 c_hX9 c_hX10 c_hX11 c_hX12
  have b01 := btr b0 b1 b0.size
  have hX_1 := hX.below b1 hX.lt
  have c_hX0 := hX_1.cell 0
  have c_hX1 := hX_1.cell 1
  have c_hX2 := hX_1.cell 2
  have c_hX3 := hX_1.cell 3
  have c_hX4 := hX_1.cell 4
  have c_hX5 := hX_1.cell 5
  have c_hX6 := hX_1.cell 6
  have c_hX7 := hX_1.cell 7
  have c_hX8 := hX_1.cell 8
  have c_hX9 := hX_1.cell 9
  have c_hX10 := hX_1.cell 10
  have c_hX11 := hX_1.cell 11
  have c_hX12 := hX_1.cell 12
  go_wp2_with fail
  refine (HAW.out _ (ht.call b01)).mono ?_
  rintro _ w2 ⟨rfl, b2⟩
  clear c_hX0 c_hX1 c_hX2 c_hX3 c_hX4 c_hX5 c_hX6 c_hX7 c_hX8 c_hX9 c_hX10 c_hX11 c_hX12
  have b02 := btr b01 b2 b01.size
  have hX_2 := hX_1.below b2 hX_1.lt
  clear hX_1
  have c_hX0 := hX_2.cell 0
  have c_hX1 := hX_2.cell 1
  have c_hX2 := hX_2.cell 2
  have c_hX3 := hX_2.cell 3
  have c_hX4 := hX_2.cell 4
  have c_hX5 := hX_2.cell 5
  have c_hX6 := hX_2.cell 6
  have c_hX7 := hX_2.cell 7
  have c_hX8 := hX_2.cell 8
  have c_hX9 := hX_2.cell 9
  have c_hX10 := hX_2.cell 10
  have c_hX11 := hX_2.cell 11
  have c_hX12 := hX_2.cell 12
  go_wp2_with fail
  go_ret
  exact ⟨rfl, b02⟩
 have hr5 : fewAt path comms raws = true ∧ gone.length ≤ 1000 ∧ news.length ≤ 1000 := by
  unfold fewU at hr
  simp only [Bool.and_eq_true, decide_eq_true_eq] at hr
  exact ⟨hr.1.1, hr.1.2, hr.2⟩
 obtain ⟨hfw, hc60, hr12, hd400⟩ := fewAt_of hr5.1
 have hfa := fewA_of hfw hrm
 have hzz : n ≤ 12 ∧ n2 ≤ 100000 ∧ ng ≤ 10000 ∧ nn ≤ 10000 := ⟨by have := hp.len; omega, by have := hd.len; omega, by have := hg.len; omega, by have := hm.len; omega⟩
 have HS := Lib.hid hfa.2
 have hn1c : n1 ≤ 60 := by have := hc.1; omega
 obtain ⟨pb, hpb⟩ : ∃ x, updPut wide (⟨gone, ⟨o, path, nx, md, pf, at_, ha, gs, ga, comms, raws⟩, news⟩ : Upd) = x := ⟨_, rfl⟩
 obtain ⟨bs, x⟩ := pb
 have HP1 := Lib.hid (show ∀ w', DL rPfx 2 w' (Lo w') Ag ng gone → DL rSeg 2 w' (Lo w') A n path → NF w' (Lo w') A1 n1 comms → DL rRaw 3 w' (Lo w') A2 n2 raws → DL rPfx 2 w' (Lo w') An nn news → LookTab w' → Calls Tryz.prog 36 #[.agg #[.slice Ag ng cg, .int .i64 o, .slice A n c, .int .u32 nx, .int .i64 md, .int .i64 pf, .bool at_, .bool ha, .int .u32 gs, .int .u32 ga, .slice A1 n1 c1, .slice A2 n2 c2, .slice An nn cn], .bool wide] w' (RetPut w' bs x) from fun w' h1 h2 h3 h4 h5 h6 => by
  have := updPut5 wide Ag ng cg gone o A n c path nx md pf at_ ha gs ga A1 n1 c1 comms A2 n2 c2 raws An nn cn news w' h1 h2 h3 h4 h5 HS (Lib.hid hwf) hzz h6
  rw [hpb] at this
  exact this)
 have HP2 := Lib.hid (show ∀ w', DL rPfx 2 w' (Lo w') Ag ng gone → DL rSeg 2 w' (Lo w') A n path → NF w' (Lo w') A1 n1 comms → DL rRaw 3 w' (Lo w') A2 n2 raws → DL rPfx 2 w' (Lo w') An nn news → Calls Tryz.prog 37 #[.agg #[.slice Ag ng cg, .int .i64 o, .slice A n c, .int .u32 nx, .int .i64 md, .int .i64 pf, .bool at_, .bool ha, .int .u32 gs, .int .u32 ga, .slice A1 n1 c1, .slice A2 n2 c2, .slice An nn cn], .bool wide] w' (RetPut w' bs x) from fun w' h1 h2 h3 h4 h5 => by
  have := refPut05 wide Ag ng cg gone o A n c path nx md pf at_ ha gs ga A1 n1 c1 comms A2 n2 c2 raws An nn cn news w' h1 h2 h3 h4 h5 HS (Lib.hid hwf) hzz
  rw [hpb] at this
  exact this)
 have H3 := Lib.hid (show ∀ (w' : World) (A A' : Option Addr) (n n' c c' : Nat), BS w' w'.heap.size A n bs → BS w' w'.heap.size A' n' bs → Calls Tryz.prog 38 #[.slice A n c, .slice A' n' c'] w' fun en w'' => en = .returned (.bool true) ∧ Below w'.heap.size w' w'' from fun w' A A' n n' c c' h h' => by
  have := ref01Same A A' n n' c c' bs bs w' _ _ h h'
  rw [beq_self_eq_true] at this
  exact this.mono fun e w'' hx => ⟨hx.1, by rw [← hx.2]; exact Below.refl _ _⟩)
 have e1 : (x == x) = true := by simp
 clear hpb hr hrm hfw hc60 hr12 hd400 hfa hzz hn1c HS hwf hr5
 obtain ⟨W, hW, hX, b0⟩ := box1c w #[.slice Ag ng cg, .int .i64 o, .slice A n c, .int .u32 nx, .int .i64 md, .int .i64 pf, .bool at_, .bool ha, .int .u32 gs, .int .u32 ga, .slice A1 n1 c1, .slice A2 n2 c2, .slice An nn cn] 77
 go_enter Tryz.func5, Tryz.ntmps5
 go_upto_region 1 with fail
 try rw [hW]
 obtain ⟨q, hq⟩ : ∃ q, w.heap.size = q := ⟨_, rfl⟩
 try rw [hq]
 rw [hq] at hX
 clear hW hq
 have c_hX0 := hX.cell 0
 have c_hX1 := hX.cell 1
 have c_hX2 := hX.cell 2
 have c_hX3 := hX.cell 3
 have c_hX4 := hX.cell 4
 have c_hX5 := hX.cell 5
 have c_hX6 := hX.cell 6
 have c_hX7 := hX.cell 7
 have c_hX8 := hX.cell 8
 have c_hX9 := hX.cell 9
 have c_hX10 := hX.cell 10
 have c_hX11 := hX.cell 11
 have c_hX12 := hX.cell 12
 go_wp2_with fail
 refine (HFW.out _ (hg.pfxB5 b0) (hp.segB5 b0) (hc.numB5 b0) (hd.rawB5 b0) (hm.pfxB5 b0)).mono ?_
 rintro _ w1 ⟨rfl, b1⟩
 clear c_hX0 c_hX1 c_hX2 c_hX3 c_hX4 c_hX5 c_hX6 c_hX7 c_hX8 c_hX9 c_hX10 c_hX11 c_hX12
 have b01 := btr b0 b1 b0.size
 have hX_1 := hX.below b1 hX.lt
 have c_hX0 := hX_1.cell 0
 have c_hX1 := hX_1.cell 1
 have c_hX2 := hX_1.cell 2
 have c_hX3 := hX_1.cell 3
 have c_hX4 := hX_1.cell 4
 have c_hX5 := hX_1.cell 5
 have c_hX6 := hX_1.cell 6
 have c_hX7 := hX_1.cell 7
 have c_hX8 := hX_1.cell 8
 have c_hX9 := hX_1.cell 9
 have c_hX10 := hX_1.cell 10
 have c_hX11 := hX_1.cell 11
 have c_hX12 := hX_1.cell 12
 go_wp2_with fail
 refine (HP1.out _ (hg.pfxB5 b01) (hp.segB5 b01) (hc.numB5 b01) (hd.rawB5 b01) (hm.pfxB5 b01) (ht.call b01)).mono ?_
 rintro _ w2 ⟨A3, n3, c3, rfl, o3, b2⟩
 clear c_hX0 c_hX1 c_hX2 c_hX3 c_hX4 c_hX5 c_hX6 c_hX7 c_hX8 c_hX9 c_hX10 c_hX11 c_hX12
 have b02 := btr b01 b2 b01.size
 have hX_2 := hX_1.below b2 hX_1.lt
 clear hX_1
 have c_hX0 := hX_2.cell 0
 have c_hX1 := hX_2.cell 1
 have c_hX2 := hX_2.cell 2
 have c_hX3 := hX_2.cell 3
 have c_hX4 := hX_2.cell 4
 have c_hX5 := hX_2.cell 5
 have c_hX6 := hX_2.cell 6
 have c_hX7 := hX_2.cell 7
 have c_hX8 := hX_2.cell 8
 have c_hX9 := hX_2.cell 9
 have c_hX10 := hX_2.cell 10
 have c_hX11 := hX_2.cell 11
 have c_hX12 := hX_2.cell 12
 go_wp2_with fail
 refine (HP2.out _ (hg.pfxB5 b02) (hp.segB5 b02) (hc.numB5 b02) (hd.rawB5 b02) (hm.pfxB5 b02)).mono ?_
 rintro _ w3 ⟨A4, n4, c4, rfl, o4, b3⟩
 clear c_hX0 c_hX1 c_hX2 c_hX3 c_hX4 c_hX5 c_hX6 c_hX7 c_hX8 c_hX9 c_hX10 c_hX11 c_hX12
 have b03 := btr b02 b3 b02.size
 have hX_3 := hX_2.below b3 hX_2.lt
 clear hX_2
 have o3_3 := o3.below b3
 have c_hX0 := hX_3.cell 0
 have c_hX1 := hX_3.cell 1
 have c_hX2 := hX_3.cell 2
 have c_hX3 := hX_3.cell 3
 have c_hX4 := hX_3.cell 4
 have c_hX5 := hX_3.cell 5
 have c_hX6 := hX_3.cell 6
 have c_hX7 := hX_3.cell 7
 have c_hX8 := hX_3.cell 8
 have c_hX9 := hX_3.cell 9
 have c_hX10 := hX_3.cell 10
 have c_hX11 := hX_3.cell 11
 have c_hX12 := hX_3.cell 12
 go_wp2_with fail
 refine (H3.out _ A3 A4 n3 n4 c3 c4 o3_3.bs o4.bs).mono ?_
 rintro _ w4 ⟨rfl, b4⟩
 clear c_hX0 c_hX1 c_hX2 c_hX3 c_hX4 c_hX5 c_hX6 c_hX7 c_hX8 c_hX9 c_hX10 c_hX11 c_hX12
 have b04 := btr b03 b4 b03.size
 have hX_4 := hX_3.below b4 hX_3.lt
 clear hX_3
 have o3_4 := o3_3.below b4
 clear o3_3
 have o4_4 := o4.below b4
 have c_hX0 := hX_4.cell 0
 have c_hX1 := hX_4.cell 1
 have c_hX2 := hX_4.cell 2
 have c_hX3 := hX_4.cell 3
 have c_hX4 := hX_4.cell 4
 have c_hX5 := hX_4.cell 5
 have c_hX6 := hX_4.cell 6
 have c_hX7 := hX_4.cell 7
 have c_hX8 := hX_4.cell 8
 have c_hX9 := hX_4.cell 9
 have c_hX10 := hX_4.cell 10
 have c_hX11 := hX_4.cell 11
 have c_hX12 := hX_4.cell 12
 go_wp2_with fail
 refine (HAW.out _ (ht.call b04)).mono ?_
 rintro _ w5 ⟨rfl, b5⟩
 clear c_hX0 c_hX1 c_hX2 c_hX3 c_hX4 c_hX5 c_hX6 c_hX7 c_hX8 c_hX9 c_hX10 c_hX11 c_hX12
 have b05 := btr b04 b5 b04.size
 have hX_5 := hX_4.below b5 hX_4.lt
 clear hX_4
 have o3_5 := o3_4.below b5
 clear o3_4
 have o4_5 := o4_4.below b5
 clear o4_4
 have c_hX0 := hX_5.cell 0
 have c_hX1 := hX_5.cell 1
 have c_hX2 := hX_5.cell 2
 have c_hX3 := hX_5.cell 3
 have c_hX4 := hX_5.cell 4
 have c_hX5 := hX_5.cell 5
 have c_hX6 := hX_5.cell 6
 have c_hX7 := hX_5.cell 7
 have c_hX8 := hX_5.cell 8
 have c_hX9 := hX_5.cell 9
 have c_hX10 := hX_5.cell 10
 have c_hX11 := hX_5.cell 11
 have c_hX12 := hX_5.cell 12
 go_wp2_with fail
 go_ret
 exact ⟨rfl, b05⟩
end Go.Proofs.YthgjknmfghjioaaGreatDoor

namespace Go.Proofs.YthgjknmfghjioaaGreatDoor
open Go.RowKit
set_option linter.unusedSimpArgs false
set_option linter.unusedVariables false
theorem hasN_grPut (wide : Bool) (a : At) : hasN (grPut wide a).kinds 1 = true ∧ hasN (grPut wide a).kinds 2 = true ∧ hasN (grPut wide a).kinds 3 = true ∧ (0 ≤ a.pref → hasN (grPut wide a).kinds 5 = true) := by
 refine ⟨?_, ?_, ?_, fun h => ?_⟩
 ·unfold grPut kndA hasN; simp
 ·unfold grPut kndA hasN; simp
 ·unfold grPut kndA hasN; simp
 ·unfold grPut kndA hasN opt; simp [h]
/-- What is put wide is read by an inner reader as it was. -/
theorem updRead_put {u : Upd} (hk : updOk u = true) (hl : ¬ 4077 < updLen true u) (hn : ¬ u.news.length = 0) (hx : nextA u.a.next = true) (hp : 0 ≤ u.a.pref) (hw : WFA u.a) (hg : ∀ p ∈ u.gone, p.1 < 4294967296) (hm : ∀ p ∈ u.news, p.1 < 4294967296) :
  updPut true u = (updB (pfxB u.gone) (saidB true u) (pfxB u.news), 0) ∧ updRead (updB (pfxB u.gone) (saidB true u) (pfxB u.news)) true true 0 = .ok u := by
 have hk2 := hk
 unfold updOk at hk2
 simp only [Bool.and_eq_true, Bool.or_eq_true, decide_eq_true_eq] at hk2
 obtain ⟨⟨h1, h2⟩, h3⟩ := hk2
 have hr := h3.resolve_left hn
 have hs : saidB true u = attsB true u.a := if_neg hn
 unfold updLen at hl
 refine ⟨by unfold updPut; rw [if_pos hk, if_neg (by unfold updLen; exact hl)], ?_⟩
 have hc := cut5_put (g := pfxB u.gone) (s := saidB true u) (n := pfxB u.news) (by omega) (by omega)
 have hk := hasN_grPut true u.a
 unfold updRead
 rw [hc]
 simp only [Bool.false_eq_true, if_false, pfxs_put _ h1 hg, hs, read_wide hr hx hw, pfxs_put _ h2 hm]
 rw [if_neg hn, show missK (grPut true u.a).kinds true = 0 by unfold missK; rw [hk.1, hk.2.1, hk.2.2.1, hk.2.2.2 hp]; rfl, if_neg (by decide), if_neg (fun h => by cases h.1)]
 rfl
set_option maxHeartbeats 16000000 in
set_option maxRecDepth 100000 in
theorem lawUpdateBack (w : World) (Ag : Option Addr) (ng cg : Nat) (gone : List Pfx) (o : Int) (A : Option Addr) (n c : Nat) (path : List Seg) (nx md pf : Int) (at_ ha : Bool) (gs ga : Int) (A1 : Option Addr) (n1 c1 : Nat) (comms : List Int) (A2 : Option Addr) (n2 c2 : Nat) (raws : List RawV) (An : Option Addr) (nn cn : Nat) (news : List Pfx) (hg : DL rPfx 2 w (Lo w) Ag ng gone) (hp : DL rSeg 2 w (Lo w) A n path) (hc : NF w (Lo w) A1 n1 comms) (hd : DL rRaw 3 w (Lo w) A2 n2 raws) (hm : DL rPfx 2 w (Lo w) An nn news) (hwf : 0 ≤ nx ∧ nx < 4294967296 ∧ 0 ≤ gs ∧ gs < 4294967296 ∧ 0 ≤ ga ∧ ga < 4294967296) (hrm : ∀ x ∈ path, x.2.length ≤ big32) (ht : LookTab w) :
  Calls Tryz.prog 6 #[.agg #[.slice Ag ng cg, .int .i64 o, .slice A n c, .int .u32 nx, .int .i64 md, .int .i64 pf, .bool at_, .bool ha, .int .u32 gs, .int .u32 ga, .slice A1 n1 c1, .slice A2 n2 c2, .slice An nn cn]] w fun en w' => en = .returned (.bool true) ∧ Below w.heap.size w w' := by
 obtain ⟨r, hr⟩ : ∃ r, fewU (⟨gone, ⟨o, path, nx, md, pf, at_, ha, gs, ga, comms, raws⟩, news⟩ : Upd) 1000 = r := ⟨_, rfl⟩
 have HFW := Lib.hid (show ∀ w', DL rPfx 2 w' (Lo w') Ag ng gone → DL rSeg 2 w' (Lo w') A n path → NF w' (Lo w') A1 n1 comms → DL rRaw 3 w' (Lo w') A2 n2 raws → DL rPfx 2 w' (Lo w') An nn news → Calls Tryz.prog 34 #[.agg #[.slice Ag ng cg, .int .i64 o, .slice A n c, .int .u32 nx, .int .i64 md, .int .i64 pf, .bool at_, .bool ha, .int .u32 gs, .int .u32 ga, .slice A1 n1 c1, .slice A2 n2 c2, .slice An nn cn], .int .i64 (1000 : Nat)] w' fun en w'' => en = .returned (.bool r) ∧ Below w'.heap.size w' w'' from fun w' h1 h2 h3 h4 h5 => by rw [← hr]; exact law05Few Ag ng cg gone o A n c path nx md pf at_ ha gs ga A1 n1 c1 comms A2 n2 c2 raws An nn cn news 1000 w' h1 h2 h3 h4 h5 (by omega))
 have HAW := Lib.hid (show ∀ w', LookTab w' → Calls Tryz.prog 35 #[] w' fun en w'' => en = .returned (.bool true) ∧ Below w'.heap.size w' w'' from fun w' h => awake05 w' h)
 cases r
 case false =>
  clear hr hrm hwf
  obtain ⟨W, hW, hX, b0⟩ := box1c w #[.slice Ag ng cg, .int .i64 o, .slice A n c, .int .u32 nx, .int .i64 md, .int .i64 pf, .bool at_, .bool ha, .int .u32 gs, .int .u32 ga, .slice A1 n1 c1, .slice A2 n2 c2, .slice An nn cn] 77
  go_enter Tryz.func6, Tryz.ntmps6
  go_upto_region 1 with fail
  try rw [hW]
  obtain ⟨q, hq⟩ : ∃ q, w.heap.size = q := ⟨_, rfl⟩
  try rw [hq]
  rw [hq] at hX
  clear hW hq
  have c_hX0 := hX.cell 0
  have c_hX1 := hX.cell 1
  have c_hX2 := hX.cell 2
  have c_hX3 := hX.cell 3
  have c_hX4 := hX.cell 4
  have c_hX5 := hX.cell 5
  have c_hX6 := hX.cell 6
  have c_hX7 := hX.cell 7
  have c_hX8 := hX.cell 8
  have c_hX9 := hX.cell 9
  have c_hX10 := hX.cell 10
  have c_hX11 := hX.cell 11
  have c_hX12 := hX.cell 12
  go_wp2_with fail
  refine (HFW.out _ (hg.pfxB5 b0) (hp.segB5 b0) (hc.numB5 b0) (hd.rawB5 b0) (hm.pfxB5 b0)).mono ?_
  rintro _ w1 ⟨rfl, b1⟩
  clear c_hX0 c_hX1 c_hX2 c_hX3 c_hX4 c_hX5 c_hX6 c_hX7 c_hX8 c_hX9 c_hX10 c_hX11 c_hX12
  have b01 := btr b0 b1 b0.size
  have hX_1 := hX.below b1 hX.lt
  have c_hX0 := hX_1.cell 0
  have c_hX1 := hX_1.cell 1
  have c_hX2 := hX_1.cell 2
  have c_hX3 := hX_1.cell 3
  have c_hX4 := hX_1.cell 4
  have c_hX5 := hX_1.cell 5
  have c_hX6 := hX_1.cell 6
  have c_hX7 := hX_1.cell 7
  have c_hX8 := hX_1.cell 8
  have c_hX9 := hX_1.cell 9
  have c_hX10 := hX_1.cell 10
  have c_hX11 := hX_1.cell 11
  have c_hX12 := hX_1.cell 12
  go_wp2_with fail
  refine (HAW.out _ (ht.call b01)).mono ?_
  rintro _ w2 ⟨rfl, b2⟩
  clear c_hX0 c_hX1 c_hX2 c_hX3 c_hX4 c_hX5 c_hX6 c_hX7 c_hX8 c_hX9 c_hX10 c_hX11 c_hX12
  have b02 := btr b01 b2 b01.size
  have hX_2 := hX_1.below b2 hX_1.lt
  clear hX_1
  have c_hX0 := hX_2.cell 0
  have c_hX1 := hX_2.cell 1
  have c_hX2 := hX_2.cell 2
  have c_hX3 := hX_2.cell 3
  have c_hX4 := hX_2.cell 4
  have c_hX5 := hX_2.cell 5
  have c_hX6 := hX_2.cell 6
  have c_hX7 := hX_2.cell 7
  have c_hX8 := hX_2.cell 8
  have c_hX9 := hX_2.cell 9
  have c_hX10 := hX_2.cell 10
  have c_hX11 := hX_2.cell 11
  have c_hX12 := hX_2.cell 12
  go_wp2_with fail
  go_ret
  exact ⟨rfl, b02⟩
 have hr5 : fewAt path comms raws = true ∧ gone.length ≤ 1000 ∧ news.length ≤ 1000 := by
  unfold fewU at hr
  simp only [Bool.and_eq_true, decide_eq_true_eq] at hr
  exact ⟨hr.1.1, hr.1.2, hr.2⟩
 obtain ⟨hfw, hc60, hr12, hd400⟩ := fewAt_of hr5.1
 have hfa := fewA_of hfw hrm
 have hzz : n ≤ 12 ∧ n2 ≤ 100000 ∧ ng ≤ 10000 ∧ nn ≤ 10000 := ⟨by have := hp.len; omega, by have := hd.len; omega, by have := hg.len; omega, by have := hm.len; omega⟩
 have HS := Lib.hid hfa.2
 have hn1c : n1 ≤ 60 := by have := hc.1; omega
 by_cases hn0 : nn = 0
 case pos =>
  have t1 : ((nn : Int) == 0) = true := by simp [hn0]
  have t2 : (nn == 0) = true := by simp [hn0]
  clear hr hrm hwf hn0 hfw hc60 hr12 hd400 hfa hzz hn1c HS hr5
  obtain ⟨W, hW, hX, b0⟩ := box1c w #[.slice Ag ng cg, .int .i64 o, .slice A n c, .int .u32 nx, .int .i64 md, .int .i64 pf, .bool at_, .bool ha, .int .u32 gs, .int .u32 ga, .slice A1 n1 c1, .slice A2 n2 c2, .slice An nn cn] 77
  go_enter Tryz.func6, Tryz.ntmps6
  go_upto_region 1 with fail
  try rw [hW]
  obtain ⟨q, hq⟩ : ∃ q, w.heap.size = q := ⟨_, rfl⟩
  try rw [hq]
  rw [hq] at hX
  clear hW hq
  have c_hX0 := hX.cell 0
  have c_hX1 := hX.cell 1
  have c_hX2 := hX.cell 2
  have c_hX3 := hX.cell 3
  have c_hX4 := hX.cell 4
  have c_hX5 := hX.cell 5
  have c_hX6 := hX.cell 6
  have c_hX7 := hX.cell 7
  have c_hX8 := hX.cell 8
  have c_hX9 := hX.cell 9
  have c_hX10 := hX.cell 10
  have c_hX11 := hX.cell 11
  have c_hX12 := hX.cell 12
  go_wp2_with fail
  refine (HFW.out _ (hg.pfxB5 b0) (hp.segB5 b0) (hc.numB5 b0) (hd.rawB5 b0) (hm.pfxB5 b0)).mono ?_
  rintro _ w1 ⟨rfl, b1⟩
  clear c_hX0 c_hX1 c_hX2 c_hX3 c_hX4 c_hX5 c_hX6 c_hX7 c_hX8 c_hX9 c_hX10 c_hX11 c_hX12
  have b01 := btr b0 b1 b0.size
  have hX_1 := hX.below b1 hX.lt
  have c_hX0 := hX_1.cell 0
  have c_hX1 := hX_1.cell 1
  have c_hX2 := hX_1.cell 2
  have c_hX3 := hX_1.cell 3
  have c_hX4 := hX_1.cell 4
  have c_hX5 := hX_1.cell 5
  have c_hX6 := hX_1.cell 6
  have c_hX7 := hX_1.cell 7
  have c_hX8 := hX_1.cell 8
  have c_hX9 := hX_1.cell 9
  have c_hX10 := hX_1.cell 10
  have c_hX11 := hX_1.cell 11
  have c_hX12 := hX_1.cell 12
  go_wp2_with fail
  refine (HAW.out _ (ht.call b01)).mono ?_
  rintro _ w2 ⟨rfl, b2⟩
  clear c_hX0 c_hX1 c_hX2 c_hX3 c_hX4 c_hX5 c_hX6 c_hX7 c_hX8 c_hX9 c_hX10 c_hX11 c_hX12
  have b02 := btr b01 b2 b01.size
  have hX_2 := hX_1.below b2 hX_1.lt
  clear hX_1
  have c_hX0 := hX_2.cell 0
  have c_hX1 := hX_2.cell 1
  have c_hX2 := hX_2.cell 2
  have c_hX3 := hX_2.cell 3
  have c_hX4 := hX_2.cell 4
  have c_hX5 := hX_2.cell 5
  have c_hX6 := hX_2.cell 6
  have c_hX7 := hX_2.cell 7
  have c_hX8 := hX_2.cell 8
  have c_hX9 := hX_2.cell 9
  have c_hX10 := hX_2.cell 10
  have c_hX11 := hX_2.cell 11
  have c_hX12 := hX_2.cell 12
  go_wp2_with fail
  go_ret
  exact ⟨rfl, b02⟩
 have t1 : ((nn : Int) == 0) = false := by simp [hn0]
 have t2 : (nn == 0) = false := by simp [hn0]
 by_cases hpf : pf < 0
 case pos =>
  have t3 : decide (pf < 0) = true := decide_eq_true hpf
  clear hr hrm hwf hn0 hfw hc60 hr12 hd400 hfa hzz hn1c HS hr5 hpf
  obtain ⟨W, hW, hX, b0⟩ := box1c w #[.slice Ag ng cg, .int .i64 o, .slice A n c, .int .u32 nx, .int .i64 md, .int .i64 pf, .bool at_, .bool ha, .int .u32 gs, .int .u32 ga, .slice A1 n1 c1, .slice A2 n2 c2, .slice An nn cn] 77
  go_enter Tryz.func6, Tryz.ntmps6
  go_upto_region 1 with fail
  try rw [hW]
  obtain ⟨q, hq⟩ : ∃ q, w.heap.size = q := ⟨_, rfl⟩
  try rw [hq]
  rw [hq] at hX
  clear hW hq
  have c_hX0 := hX.cell 0
  have c_hX1 := hX.cell 1
  have c_hX2 := hX.cell 2
  have c_hX3 := hX.cell 3
  have c_hX4 := hX.cell 4
  have c_hX5 := hX.cell 5
  have c_hX6 := hX.cell 6
  have c_hX7 := hX.cell 7
  have c_hX8 := hX.cell 8
  have c_hX9 := hX.cell 9
  have c_hX10 := hX.cell 10
  have c_hX11 := hX.cell 11
  have c_hX12 := hX.cell 12
  go_wp2_with fail
  refine (HFW.out _ (hg.pfxB5 b0) (hp.segB5 b0) (hc.numB5 b0) (hd.rawB5 b0) (hm.pfxB5 b0)).mono ?_
  rintro _ w1 ⟨rfl, b1⟩
  clear c_hX0 c_hX1 c_hX2 c_hX3 c_hX4 c_hX5 c_hX6 c_hX7 c_hX8 c_hX9 c_hX10 c_hX11 c_hX12
  have b01 := btr b0 b1 b0.size
  have hX_1 := hX.below b1 hX.lt
  have c_hX0 := hX_1.cell 0
  have c_hX1 := hX_1.cell 1
  have c_hX2 := hX_1.cell 2
  have c_hX3 := hX_1.cell 3
  have c_hX4 := hX_1.cell 4
  have c_hX5 := hX_1.cell 5
  have c_hX6 := hX_1.cell 6
  have c_hX7 := hX_1.cell 7
  have c_hX8 := hX_1.cell 8
  have c_hX9 := hX_1.cell 9
  have c_hX10 := hX_1.cell 10
  have c_hX11 := hX_1.cell 11
  have c_hX12 := hX_1.cell 12
  go_wp2_with fail
  refine (HAW.out _ (ht.call b01)).mono ?_
  rintro _ w2 ⟨rfl, b2⟩
  clear c_hX0 c_hX1 c_hX2 c_hX3 c_hX4 c_hX5 c_hX6 c_hX7 c_hX8 c_hX9 c_hX10 c_hX11 c_hX12
  have b02 := btr b01 b2 b01.size
  have hX_2 := hX_1.below b2 hX_1.lt
  clear hX_1
  have c_hX0 := hX_2.cell 0
  have c_hX1 := hX_2.cell 1
  have c_hX2 := hX_2.cell 2
  have c_hX3 := hX_2.cell 3
  have c_hX4 := hX_2.cell 4
  have c_hX5 := hX_2.cell 5
  have c_hX6 := hX_2.cell 6
  have c_hX7 := hX_2.cell 7
  have c_hX8 := hX_2.cell 8
  have c_hX9 := hX_2.cell 9
  have c_hX10 := hX_2.cell 10
  have c_hX11 := hX_2.cell 11
  have c_hX12 := hX_2.cell 12
  go_wp2_with fail
  go_ret
  exact ⟨rfl, b02⟩
 have t3 : decide (pf < 0) = false := decide_eq_false hpf
 obtain ⟨nb, hnb⟩ : ∃ x, nextA nx = x := ⟨_, rfl⟩
 have HN2 := Lib.hid (show ∀ w', Calls Tryz.prog 39 #[.int .u32 nx] w' fun en w'' => en = .returned (.bool nb) ∧ Below w'.heap.size w' w'' from fun w' => by rw [← hnb]; exact (refNext04 nx w' hwf.1 hwf.2.1).mono fun e w'' hx => ⟨hx.1, by rw [← hx.2]; exact Below.refl _ _⟩)
 cases nb
 case false =>
  clear hr hrm hwf hn0 hfw hc60 hr12 hd400 hfa hzz hn1c HS hr5 hpf hnb
  obtain ⟨W, hW, hX, b0⟩ := box1c w #[.slice Ag ng cg, .int .i64 o, .slice A n c, .int .u32 nx, .int .i64 md, .int .i64 pf, .bool at_, .bool ha, .int .u32 gs, .int .u32 ga, .slice A1 n1 c1, .slice A2 n2 c2, .slice An nn cn] 77
  go_enter Tryz.func6, Tryz.ntmps6
  go_upto_region 1 with fail
  try rw [hW]
  obtain ⟨q, hq⟩ : ∃ q, w.heap.size = q := ⟨_, rfl⟩
  try rw [hq]
  rw [hq] at hX
  clear hW hq
  have c_hX0 := hX.cell 0
  have c_hX1 := hX.cell 1
  have c_hX2 := hX.cell 2
  have c_hX3 := hX.cell 3
  have c_hX4 := hX.cell 4
  have c_hX5 := hX.cell 5
  have c_hX6 := hX.cell 6
  have c_hX7 := hX.cell 7
  have c_hX8 := hX.cell 8
  have c_hX9 := hX.cell 9
  have c_hX10 := hX.cell 10
  have c_hX11 := hX.cell 11
  have c_hX12 := hX.cell 12
  go_wp2_with fail
  refine (HFW.out _ (hg.pfxB5 b0) (hp.segB5 b0) (hc.numB5 b0) (hd.rawB5 b0) (hm.pfxB5 b0)).mono ?_
  rintro _ w1 ⟨rfl, b1⟩
  clear c_hX0 c_hX1 c_hX2 c_hX3 c_hX4 c_hX5 c_hX6 c_hX7 c_hX8 c_hX9 c_hX10 c_hX11 c_hX12
  have b01 := btr b0 b1 b0.size
  have hX_1 := hX.below b1 hX.lt
  have c_hX0 := hX_1.cell 0
  have c_hX1 := hX_1.cell 1
  have c_hX2 := hX_1.cell 2
  have c_hX3 := hX_1.cell 3
  have c_hX4 := hX_1.cell 4
  have c_hX5 := hX_1.cell 5
  have c_hX6 := hX_1.cell 6
  have c_hX7 := hX_1.cell 7
  have c_hX8 := hX_1.cell 8
  have c_hX9 := hX_1.cell 9
  have c_hX10 := hX_1.cell 10
  have c_hX11 := hX_1.cell 11
  have c_hX12 := hX_1.cell 12
  go_wp2_with fail
  refine (HN2.out _).mono ?_
  rintro _ w2 ⟨rfl, b2⟩
  clear c_hX0 c_hX1 c_hX2 c_hX3 c_hX4 c_hX5 c_hX6 c_hX7 c_hX8 c_hX9 c_hX10 c_hX11 c_hX12
  have b02 := btr b01 b2 b01.size
  have hX_2 := hX_1.below b2 hX_1.lt
  clear hX_1
  have c_hX0 := hX_2.cell 0
  have c_hX1 := hX_2.cell 1
  have c_hX2 := hX_2.cell 2
  have c_hX3 := hX_2.cell 3
  have c_hX4 := hX_2.cell 4
  have c_hX5 := hX_2.cell 5
  have c_hX6 := hX_2.cell 6
  have c_hX7 := hX_2.cell 7
  have c_hX8 := hX_2.cell 8
  have c_hX9 := hX_2.cell 9
  have c_hX10 := hX_2.cell 10
  have c_hX11 := hX_2.cell 11
  have c_hX12 := hX_2.cell 12
  go_wp2_with fail
  refine (HAW.out _ (ht.call b02)).mono ?_
  rintro _ w3 ⟨rfl, b3⟩
  clear c_hX0 c_hX1 c_hX2 c_hX3 c_hX4 c_hX5 c_hX6 c_hX7 c_hX8 c_hX9 c_hX10 c_hX11 c_hX12
  have b03 := btr b02 b3 b02.size
  have hX_3 := hX_2.below b3 hX_2.lt
  clear hX_2
  have c_hX0 := hX_3.cell 0
  have c_hX1 := hX_3.cell 1
  have c_hX2 := hX_3.cell 2
  have c_hX3 := hX_3.cell 3
  have c_hX4 := hX_3.cell 4
  have c_hX5 := hX_3.cell 5
  have c_hX6 := hX_3.cell 6
  have c_hX7 := hX_3.cell 7
  have c_hX8 := hX_3.cell 8
  have c_hX9 := hX_3.cell 9
  have c_hX10 := hX_3.cell 10
  have c_hX11 := hX_3.cell 11
  have c_hX12 := hX_3.cell 12
  go_wp2_with fail
  go_ret
  exact ⟨rfl, b03⟩
 have HWF := Lib.hid (show WFA (⟨o, path, nx, md, pf, at_, ha, gs, ga, comms, raws⟩ : At) from ⟨⟨hwf.1, hwf.2.1⟩, ⟨hwf.2.2.1, hwf.2.2.2.1⟩, ⟨hwf.2.2.2.2.1, hwf.2.2.2.2.2⟩, DL.wfA hp, NF.wfB hc⟩)
 have hpf0 : 0 ≤ pf := by omega
 have hnl : ¬ news.length = 0 := by have := hm.len; omega
 obtain ⟨pb, hpb⟩ : ∃ x, updPut true (⟨gone, ⟨o, path, nx, md, pf, at_, ha, gs, ga, comms, raws⟩, news⟩ : Upd) = x := ⟨_, rfl⟩
 obtain ⟨bs, x⟩ := pb
 have HP1 := Lib.hid (show ∀ w', DL rPfx 2 w' (Lo w') Ag ng gone → DL rSeg 2 w' (Lo w') A n path → NF w' (Lo w') A1 n1 comms → DL rRaw 3 w' (Lo w') A2 n2 raws → DL rPfx 2 w' (Lo w') An nn news → LookTab w' → Calls Tryz.prog 36 #[.agg #[.slice Ag ng cg, .int .i64 o, .slice A n c, .int .u32 nx, .int .i64 md, .int .i64 pf, .bool at_, .bool ha, .int .u32 gs, .int .u32 ga, .slice A1 n1 c1, .slice A2 n2 c2, .slice An nn cn], .bool true] w' (RetPut w' bs x) from fun w' h1 h2 h3 h4 h5 h6 => by
  have := updPut5 true Ag ng cg gone o A n c path nx md pf at_ ha gs ga A1 n1 c1 comms A2 n2 c2 raws An nn cn news w' h1 h2 h3 h4 h5 HS (Lib.hid hwf) hzz h6
  rw [hpb] at this
  exact this)
 have HP2 := Lib.hid (show ∀ w', DL rPfx 2 w' (Lo w') Ag ng gone → DL rSeg 2 w' (Lo w') A n path → NF w' (Lo w') A1 n1 comms → DL rRaw 3 w' (Lo w') A2 n2 raws → DL rPfx 2 w' (Lo w') An nn news → Calls Tryz.prog 37 #[.agg #[.slice Ag ng cg, .int .i64 o, .slice A n c, .int .u32 nx, .int .i64 md, .int .i64 pf, .bool at_, .bool ha, .int .u32 gs, .int .u32 ga, .slice A1 n1 c1, .slice A2 n2 c2, .slice An nn cn], .bool true] w' (RetPut w' bs x) from fun w' h1 h2 h3 h4 h5 => by
  have := refPut05 true Ag ng cg gone o A n c path nx md pf at_ ha gs ga A1 n1 c1 comms A2 n2 c2 raws An nn cn news w' h1 h2 h3 h4 h5 HS (Lib.hid hwf) hzz
  rw [hpb] at this
  exact this)
 have hx0 : x = 0 → updRead bs true true 0 = .ok (⟨gone, ⟨o, path, nx, md, pf, at_, ha, gs, ga, comms, raws⟩, news⟩ : Upd) ∧ bs.length ≤ 100000 := by
  intro hx
  subst hx
  have hk : updOk (⟨gone, ⟨o, path, nx, md, pf, at_, ha, gs, ga, comms, raws⟩, news⟩ : Upd) = true := by
   cases hk : updOk (⟨gone, ⟨o, path, nx, md, pf, at_, ha, gs, ga, comms, raws⟩, news⟩ : Upd)
   ·unfold updPut at hpb; rw [hk] at hpb; simp at hpb
   ·rfl
  have hl : ¬ 4077 < updLen true (⟨gone, ⟨o, path, nx, md, pf, at_, ha, gs, ga, comms, raws⟩, news⟩ : Upd) := by
   intro hl
   unfold updPut at hpb
   rw [if_pos hk, if_pos hl] at hpb
   simp at hpb
  obtain ⟨e1, e2⟩ := updRead_put hk hl hnl hnb hpf0 HWF.out hg.wfP hm.wfP
  rw [e1] at hpb
  injection hpb with hb _
  rw [← hb]
  refine ⟨e2, ?_⟩
  rw [updB_len]
  unfold updLen at hl
  omega
 have e1 : (x == x) = true := by simp
 by_cases hx : x = 0
 case neg =>
  have t4 : (x != 0) = true := by simpa using hx
  clear hr hrm hwf hn0 hfw hc60 hr12 hd400 hfa hzz hn1c HS hr5 hpf hnb hx0 hx hpb hnl hpf0 HWF
  obtain ⟨W, hW, hX, b0⟩ := box1c w #[.slice Ag ng cg, .int .i64 o, .slice A n c, .int .u32 nx, .int .i64 md, .int .i64 pf, .bool at_, .bool ha, .int .u32 gs, .int .u32 ga, .slice A1 n1 c1, .slice A2 n2 c2, .slice An nn cn] 77
  go_enter Tryz.func6, Tryz.ntmps6
  go_upto_region 1 with fail
  try rw [hW]
  obtain ⟨q, hq⟩ : ∃ q, w.heap.size = q := ⟨_, rfl⟩
  try rw [hq]
  rw [hq] at hX
  clear hW hq
  have c_hX0 := hX.cell 0
  have c_hX1 := hX.cell 1
  have c_hX2 := hX.cell 2
  have c_hX3 := hX.cell 3
  have c_hX4 := hX.cell 4
  have c_hX5 := hX.cell 5
  have c_hX6 := hX.cell 6
  have c_hX7 := hX.cell 7
  have c_hX8 := hX.cell 8
  have c_hX9 := hX.cell 9
  have c_hX10 := hX.cell 10
  have c_hX11 := hX.cell 11
  have c_hX12 := hX.cell 12
  go_wp2_with fail
  refine (HFW.out _ (hg.pfxB5 b0) (hp.segB5 b0) (hc.numB5 b0) (hd.rawB5 b0) (hm.pfxB5 b0)).mono ?_
  rintro _ w1 ⟨rfl, b1⟩
  clear c_hX0 c_hX1 c_hX2 c_hX3 c_hX4 c_hX5 c_hX6 c_hX7 c_hX8 c_hX9 c_hX10 c_hX11 c_hX12
  have b01 := btr b0 b1 b0.size
  have hX_1 := hX.below b1 hX.lt
  have c_hX0 := hX_1.cell 0
  have c_hX1 := hX_1.cell 1
  have c_hX2 := hX_1.cell 2
  have c_hX3 := hX_1.cell 3
  have c_hX4 := hX_1.cell 4
  have c_hX5 := hX_1.cell 5
  have c_hX6 := hX_1.cell 6
  have c_hX7 := hX_1.cell 7
  have c_hX8 := hX_1.cell 8
  have c_hX9 := hX_1.cell 9
  have c_hX10 := hX_1.cell 10
  have c_hX11 := hX_1.cell 11
  have c_hX12 := hX_1.cell 12
  go_wp2_with fail
  refine (HN2.out _).mono ?_
  rintro _ w2 ⟨rfl, b2⟩
  clear c_hX0 c_hX1 c_hX2 c_hX3 c_hX4 c_hX5 c_hX6 c_hX7 c_hX8 c_hX9 c_hX10 c_hX11 c_hX12
  have b02 := btr b01 b2 b01.size
  have hX_2 := hX_1.below b2 hX_1.lt
  clear hX_1
  have c_hX0 := hX_2.cell 0
  have c_hX1 := hX_2.cell 1
  have c_hX2 := hX_2.cell 2
  have c_hX3 := hX_2.cell 3
  have c_hX4 := hX_2.cell 4
  have c_hX5 := hX_2.cell 5
  have c_hX6 := hX_2.cell 6
  have c_hX7 := hX_2.cell 7
  have c_hX8 := hX_2.cell 8
  have c_hX9 := hX_2.cell 9
  have c_hX10 := hX_2.cell 10
  have c_hX11 := hX_2.cell 11
  have c_hX12 := hX_2.cell 12
  go_wp2_with fail
  refine (HP1.out _ (hg.pfxB5 b02) (hp.segB5 b02) (hc.numB5 b02) (hd.rawB5 b02) (hm.pfxB5 b02) (ht.call b02)).mono ?_
  rintro _ w3 ⟨A3, n3, c3, rfl, o3, b3⟩
  clear c_hX0 c_hX1 c_hX2 c_hX3 c_hX4 c_hX5 c_hX6 c_hX7 c_hX8 c_hX9 c_hX10 c_hX11 c_hX12
  have b03 := btr b02 b3 b02.size
  have hX_3 := hX_2.below b3 hX_2.lt
  clear hX_2
  have c_hX0 := hX_3.cell 0
  have c_hX1 := hX_3.cell 1
  have c_hX2 := hX_3.cell 2
  have c_hX3 := hX_3.cell 3
  have c_hX4 := hX_3.cell 4
  have c_hX5 := hX_3.cell 5
  have c_hX6 := hX_3.cell 6
  have c_hX7 := hX_3.cell 7
  have c_hX8 := hX_3.cell 8
  have c_hX9 := hX_3.cell 9
  have c_hX10 := hX_3.cell 10
  have c_hX11 := hX_3.cell 11
  have c_hX12 := hX_3.cell 12
  go_wp2_with fail
  refine (HP2.out _ (hg.pfxB5 b03) (hp.segB5 b03) (hc.numB5 b03) (hd.rawB5 b03) (hm.pfxB5 b03)).mono ?_
  rintro _ w4 ⟨A4, n4, c4, rfl, o4, b4⟩
  clear c_hX0 c_hX1 c_hX2 c_hX3 c_hX4 c_hX5 c_hX6 c_hX7 c_hX8 c_hX9 c_hX10 c_hX11 c_hX12
  have b04 := btr b03 b4 b03.size
  have hX_4 := hX_3.below b4 hX_3.lt
  clear hX_3
  have c_hX0 := hX_4.cell 0
  have c_hX1 := hX_4.cell 1
  have c_hX2 := hX_4.cell 2
  have c_hX3 := hX_4.cell 3
  have c_hX4 := hX_4.cell 4
  have c_hX5 := hX_4.cell 5
  have c_hX6 := hX_4.cell 6
  have c_hX7 := hX_4.cell 7
  have c_hX8 := hX_4.cell 8
  have c_hX9 := hX_4.cell 9
  have c_hX10 := hX_4.cell 10
  have c_hX11 := hX_4.cell 11
  have c_hX12 := hX_4.cell 12
  go_wp2_with fail
  refine (HAW.out _ (ht.call b04)).mono ?_
  rintro _ w5 ⟨rfl, b5⟩
  clear c_hX0 c_hX1 c_hX2 c_hX3 c_hX4 c_hX5 c_hX6 c_hX7 c_hX8 c_hX9 c_hX10 c_hX11 c_hX12
  have b05 := btr b04 b5 b04.size
  have hX_5 := hX_4.below b5 hX_4.lt
  clear hX_4
  have c_hX0 := hX_5.cell 0
  have c_hX1 := hX_5.cell 1
  have c_hX2 := hX_5.cell 2
  have c_hX3 := hX_5.cell 3
  have c_hX4 := hX_5.cell 4
  have c_hX5 := hX_5.cell 5
  have c_hX6 := hX_5.cell 6
  have c_hX7 := hX_5.cell 7
  have c_hX8 := hX_5.cell 8
  have c_hX9 := hX_5.cell 9
  have c_hX10 := hX_5.cell 10
  have c_hX11 := hX_5.cell 11
  have c_hX12 := hX_5.cell 12
  go_wp2_with fail
  go_ret
  exact ⟨rfl, b05⟩
 subst hx
 obtain ⟨hrd, hbl⟩ := hx0 rfl
 have HRD := Lib.hid (show ∀ (A' : Option Addr) (n' c' : Nat) w', LookTab w' → BS w' w'.heap.size A' n' bs → Calls Tryz.prog 40 #[.slice A' n' c', .bool true, .bool true, .int .u32 0] w' (RetUX w' [] (.ok (⟨gone, ⟨o, path, nx, md, pf, at_, ha, gs, ga, comms, raws⟩, news⟩ : Upd))) from fun A' n' c' w' h1 h2 => by rw [← hrd]; exact updReadX [] A' n' c' bs true true 0 w' (fun x hx => by cases hx) h2 (by rw [h2.len]; exact hbl) h1)
 have HSM := Lib.hid (show ∀ (Ag' : Option Addr) (ng' cg' : Nat) (A' : Option Addr) (n' c' : Nat) (A1' : Option Addr) (n1' c1' : Nat) (A2' : Option Addr) (n2' c2' : Nat) (An' : Option Addr) (nn' cn' : Nat) w', DL rPfx 2 w' (Lo w') Ag' ng' gone → DL rSeg 2 w' (Lo w') A' n' path → NF w' (Lo w') A1' n1' comms → DL rRaw 3 w' (Lo w') A2' n2' raws → DL rPfx 2 w' (Lo w') An' nn' news → DL rPfx 2 w' (Lo w') Ag ng gone → DL rSeg 2 w' (Lo w') A n path → NF w' (Lo w') A1 n1 comms → DL rRaw 3 w' (Lo w') A2 n2 raws → DL rPfx 2 w' (Lo w') An nn news → Calls Tryz.prog 41 #[.agg #[.slice Ag' ng' cg', .int .i64 o, .slice A' n' c', .int .u32 nx, .int .i64 md, .int .i64 pf, .bool at_, .bool ha, .int .u32 gs, .int .u32 ga, .slice A1' n1' c1', .slice A2' n2' c2', .slice An' nn' cn'], .agg #[.slice Ag ng cg, .int .i64 o, .slice A n c, .int .u32 nx, .int .i64 md, .int .i64 pf, .bool at_, .bool ha, .int .u32 gs, .int .u32 ga, .slice A1 n1 c1, .slice A2 n2 c2, .slice An nn cn]] w' fun en w'' => en = .returned (.bool true) ∧ Below w'.heap.size w' w'' from fun Ag' ng' cg' A' n' c' A1' n1' c1' A2' n2' c2' An' nn' cn' w' k1 k2 k3 k4 k5 h1 h2 h3 h4 h5 => by
  have e1 : ng' = ng := k1.len.trans h1.len.symm
  have e2 : n' = n := k2.len.trans h2.len.symm
  have e3 : n1' = n1 := k3.1.trans h3.1.symm
  have e4 : n2' = n2 := k4.len.trans h4.len.symm
  have e5 : nn' = nn := k5.len.trans h5.len.symm
  subst e1 e2 e3 e4 e5
  exact refSame05 Ag' _ cg' gone o A' _ c' path nx md pf at_ ha gs ga A1' _ c1' comms A2' _ c2' raws An' _ cn' news Ag cg A c A1 c1 A2 c2 An cn w' k1 k2 k3 k4 k5 h1 h2 h3 h4 h5 (by omega) HS (by omega) (by omega) (Lib.hid fun x hx => by have := hd400 x hx; omega) (by omega) (by omega))
 clear hr hrm hwf hn0 hfw hc60 hr12 hd400 hfa hzz hn1c HS hr5 hpf hnb hx0 hpb hnl hpf0 HWF hrd hbl e1
 obtain ⟨W, hW, hX, b0⟩ := box1c w #[.slice Ag ng cg, .int .i64 o, .slice A n c, .int .u32 nx, .int .i64 md, .int .i64 pf, .bool at_, .bool ha, .int .u32 gs, .int .u32 ga, .slice A1 n1 c1, .slice A2 n2 c2, .slice An nn cn] 77
 go_enter Tryz.func6, Tryz.ntmps6
 go_upto_region 1 with fail
 try rw [hW]
 obtain ⟨q, hq⟩ : ∃ q, w.heap.size = q := ⟨_, rfl⟩
 try rw [hq]
 rw [hq] at hX
 clear hW hq
 have c_hX0 := hX.cell 0
 have c_hX1 := hX.cell 1
 have c_hX2 := hX.cell 2
 have c_hX3 := hX.cell 3
 have c_hX4 := hX.cell 4
 have c_hX5 := hX.cell 5
 have c_hX6 := hX.cell 6
 have c_hX7 := hX.cell 7
 have c_hX8 := hX.cell 8
 have c_hX9 := hX.cell 9
 have c_hX10 := hX.cell 10
 have c_hX11 := hX.cell 11
 have c_hX12 := hX.cell 12
 go_wp2_with fail
 refine (HFW.out _ (hg.pfxB5 b0) (hp.segB5 b0) (hc.numB5 b0) (hd.rawB5 b0) (hm.pfxB5 b0)).mono ?_
 rintro _ w1 ⟨rfl, b1⟩
 clear c_hX0 c_hX1 c_hX2 c_hX3 c_hX4 c_hX5 c_hX6 c_hX7 c_hX8 c_hX9 c_hX10 c_hX11 c_hX12
 have b01 := btr b0 b1 b0.size
 have hX_1 := hX.below b1 hX.lt
 have c_hX0 := hX_1.cell 0
 have c_hX1 := hX_1.cell 1
 have c_hX2 := hX_1.cell 2
 have c_hX3 := hX_1.cell 3
 have c_hX4 := hX_1.cell 4
 have c_hX5 := hX_1.cell 5
 have c_hX6 := hX_1.cell 6
 have c_hX7 := hX_1.cell 7
 have c_hX8 := hX_1.cell 8
 have c_hX9 := hX_1.cell 9
 have c_hX10 := hX_1.cell 10
 have c_hX11 := hX_1.cell 11
 have c_hX12 := hX_1.cell 12
 go_wp2_with fail
 refine (HN2.out _).mono ?_
 rintro _ w2 ⟨rfl, b2⟩
 clear c_hX0 c_hX1 c_hX2 c_hX3 c_hX4 c_hX5 c_hX6 c_hX7 c_hX8 c_hX9 c_hX10 c_hX11 c_hX12
 have b02 := btr b01 b2 b01.size
 have hX_2 := hX_1.below b2 hX_1.lt
 clear hX_1
 have c_hX0 := hX_2.cell 0
 have c_hX1 := hX_2.cell 1
 have c_hX2 := hX_2.cell 2
 have c_hX3 := hX_2.cell 3
 have c_hX4 := hX_2.cell 4
 have c_hX5 := hX_2.cell 5
 have c_hX6 := hX_2.cell 6
 have c_hX7 := hX_2.cell 7
 have c_hX8 := hX_2.cell 8
 have c_hX9 := hX_2.cell 9
 have c_hX10 := hX_2.cell 10
 have c_hX11 := hX_2.cell 11
 have c_hX12 := hX_2.cell 12
 go_wp2_with fail
 refine (HP1.out _ (hg.pfxB5 b02) (hp.segB5 b02) (hc.numB5 b02) (hd.rawB5 b02) (hm.pfxB5 b02) (ht.call b02)).mono ?_
 rintro _ w3 ⟨A3, n3, c3, rfl, o3, b3⟩
 clear c_hX0 c_hX1 c_hX2 c_hX3 c_hX4 c_hX5 c_hX6 c_hX7 c_hX8 c_hX9 c_hX10 c_hX11 c_hX12
 have b03 := btr b02 b3 b02.size
 have hX_3 := hX_2.below b3 hX_2.lt
 clear hX_2
 have c_hX0 := hX_3.cell 0
 have c_hX1 := hX_3.cell 1
 have c_hX2 := hX_3.cell 2
 have c_hX3 := hX_3.cell 3
 have c_hX4 := hX_3.cell 4
 have c_hX5 := hX_3.cell 5
 have c_hX6 := hX_3.cell 6
 have c_hX7 := hX_3.cell 7
 have c_hX8 := hX_3.cell 8
 have c_hX9 := hX_3.cell 9
 have c_hX10 := hX_3.cell 10
 have c_hX11 := hX_3.cell 11
 have c_hX12 := hX_3.cell 12
 have s3 := o3.bs
 go_wp2_with fail
 refine (HP2.out _ (hg.pfxB5 b03) (hp.segB5 b03) (hc.numB5 b03) (hd.rawB5 b03) (hm.pfxB5 b03)).mono ?_
 rintro _ w4 ⟨A4, n4, c4, rfl, o4, b4⟩
 clear c_hX0 c_hX1 c_hX2 c_hX3 c_hX4 c_hX5 c_hX6 c_hX7 c_hX8 c_hX9 c_hX10 c_hX11 c_hX12
 have b04 := btr b03 b4 b03.size
 have hX_4 := hX_3.below b4 hX_3.lt
 clear hX_3
 have s3_4 := s3.call b4
 have c_hX0 := hX_4.cell 0
 have c_hX1 := hX_4.cell 1
 have c_hX2 := hX_4.cell 2
 have c_hX3 := hX_4.cell 3
 have c_hX4 := hX_4.cell 4
 have c_hX5 := hX_4.cell 5
 have c_hX6 := hX_4.cell 6
 have c_hX7 := hX_4.cell 7
 have c_hX8 := hX_4.cell 8
 have c_hX9 := hX_4.cell 9
 have c_hX10 := hX_4.cell 10
 have c_hX11 := hX_4.cell 11
 have c_hX12 := hX_4.cell 12
 go_wp2_with fail
 refine (HRD.out A3 n3 c3 _ (ht.call b04) s3_4).mono ?_
 rintro _ w5 ⟨b5, hm5⟩
 obtain ⟨Ag', ng', cg', A', n', c', A1', n1', c1', A2', n2', c2', An', nn', cn', rfl, d1, d2, d3, d4, d5, hbd⟩ := hm5
 simp only at d1 d2 d3 d4 d5
 clear c_hX0 c_hX1 c_hX2 c_hX3 c_hX4 c_hX5 c_hX6 c_hX7 c_hX8 c_hX9 c_hX10 c_hX11 c_hX12
 have b05 := btr b04 b5 b04.size
 have hX_5 := hX_4.below b5 hX_4.lt
 clear hX_4
 have s3_5 := s3_4.call b5
 clear s3_4
 have c_hX0 := hX_5.cell 0
 have c_hX1 := hX_5.cell 1
 have c_hX2 := hX_5.cell 2
 have c_hX3 := hX_5.cell 3
 have c_hX4 := hX_5.cell 4
 have c_hX5 := hX_5.cell 5
 have c_hX6 := hX_5.cell 6
 have c_hX7 := hX_5.cell 7
 have c_hX8 := hX_5.cell 8
 have c_hX9 := hX_5.cell 9
 have c_hX10 := hX_5.cell 10
 have c_hX11 := hX_5.cell 11
 have c_hX12 := hX_5.cell 12
 simp only
 go_upto_region 8 with fail
 obtain ⟨W6, hW6, hU, hF, b6⟩ := boxes2 w5 #[.slice Ag' ng' cg', .int .i64 o, .slice A' n' c', .int .u32 nx, .int .i64 md, .int .i64 pf, .bool at_, .bool ha, .int .u32 gs, .int .u32 ga, .slice A1' n1' c1', .slice A2' n2' c2', .slice An' nn' cn'] #[.int .i64 0, .int .i64 0, .slice none 0 0] 77 88
 try rw [hW6]
 obtain ⟨q6, hq6⟩ : ∃ x, w5.heap.size = x := ⟨_, rfl⟩
 obtain ⟨q7, hq7⟩ : ∃ x, q6 + 1 = x := ⟨_, rfl⟩
 have f1 := d1.keep (S' := Lo W6) rPfx_ok (fun b hb => ⟨Nat.lt_of_lt_of_le hb.1 b6.size, b6.block b hb.1⟩)
 have f2 := d2.keep (S' := Lo W6) rSeg_ok (fun b hb => ⟨Nat.lt_of_lt_of_le hb.1 b6.size, b6.block b hb.1⟩)
 have f3 := d3.keep (S' := Lo W6) (fun b hb => ⟨Nat.lt_of_lt_of_le hb.1 b6.size, b6.block b hb.1⟩)
 have f4 := d4.keep (S' := Lo W6) rRaw_ok (fun b hb => ⟨Nat.lt_of_lt_of_le hb.1 b6.size, b6.block b hb.1⟩)
 have f5 := d5.keep (S' := Lo W6) rPfx_ok (fun b hb => ⟨Nat.lt_of_lt_of_le hb.1 b6.size, b6.block b hb.1⟩)
 clear c_hX0 c_hX1 c_hX2 c_hX3 c_hX4 c_hX5 c_hX6 c_hX7 c_hX8 c_hX9 c_hX10 c_hX11 c_hX12
 have b06 := btr b05 b6 b05.size
 have hX_6 := hX_5.below b6 hX_5.lt
 clear hX_5
 have s3_6 := s3_5.call b6
 clear s3_5
 have c_hX0 := hX_6.cell 0
 have c_hX1 := hX_6.cell 1
 have c_hX2 := hX_6.cell 2
 have c_hX3 := hX_6.cell 3
 have c_hX4 := hX_6.cell 4
 have c_hX5 := hX_6.cell 5
 have c_hX6 := hX_6.cell 6
 have c_hX7 := hX_6.cell 7
 have c_hX8 := hX_6.cell 8
 have c_hX9 := hX_6.cell 9
 have c_hX10 := hX_6.cell 10
 have c_hX11 := hX_6.cell 11
 have c_hX12 := hX_6.cell 12
 try rw [hq6]
 try rw [hq7]
 rw [hq6] at hU hF
 rw [hq7] at hF
 clear hW6 hq6 hq7 d1 d2 d3 d4 d5 hbd
 have c_hU0 := hU.cell 0
 have c_hU1 := hU.cell 1
 have c_hU2 := hU.cell 2
 have c_hU3 := hU.cell 3
 have c_hU4 := hU.cell 4
 have c_hU5 := hU.cell 5
 have c_hU6 := hU.cell 6
 have c_hU7 := hU.cell 7
 have c_hU8 := hU.cell 8
 have c_hU9 := hU.cell 9
 have c_hU10 := hU.cell 10
 have c_hU11 := hU.cell 11
 have c_hU12 := hU.cell 12
 have c_hF0 := hF.cell 0
 go_wp2_with fail
 refine (HSM.out Ag' ng' cg' A' n' c' A1' n1' c1' A2' n2' c2' An' nn' cn' _ f1 f2 f3 f4 f5 (hg.pfxB5 b06) (hp.segB5 b06) (hc.numB5 b06) (hd.rawB5 b06) (hm.pfxB5 b06)).mono ?_
 rintro _ w7 ⟨rfl, b7⟩
 clear c_hX0 c_hX1 c_hX2 c_hX3 c_hX4 c_hX5 c_hX6 c_hX7 c_hX8 c_hX9 c_hX10 c_hX11 c_hX12 c_hU0 c_hU1 c_hU2 c_hU3 c_hU4 c_hU5 c_hU6 c_hU7 c_hU8 c_hU9 c_hU10 c_hU11 c_hU12 c_hF0
 have b07 := btr b06 b7 b06.size
 have hX_7 := hX_6.below b7 hX_6.lt
 clear hX_6
 have s3_7 := s3_6.call b7
 clear s3_6
 have hU_7 := hU.below b7 hU.lt
 have hF_7 := hF.below b7 hF.lt
 have c_hX0 := hX_7.cell 0
 have c_hX1 := hX_7.cell 1
 have c_hX2 := hX_7.cell 2
 have c_hX3 := hX_7.cell 3
 have c_hX4 := hX_7.cell 4
 have c_hX5 := hX_7.cell 5
 have c_hX6 := hX_7.cell 6
 have c_hX7 := hX_7.cell 7
 have c_hX8 := hX_7.cell 8
 have c_hX9 := hX_7.cell 9
 have c_hX10 := hX_7.cell 10
 have c_hX11 := hX_7.cell 11
 have c_hX12 := hX_7.cell 12
 have c_hU0 := hU_7.cell 0
 have c_hU1 := hU_7.cell 1
 have c_hU2 := hU_7.cell 2
 have c_hU3 := hU_7.cell 3
 have c_hU4 := hU_7.cell 4
 have c_hU5 := hU_7.cell 5
 have c_hU6 := hU_7.cell 6
 have c_hU7 := hU_7.cell 7
 have c_hU8 := hU_7.cell 8
 have c_hU9 := hU_7.cell 9
 have c_hU10 := hU_7.cell 10
 have c_hU11 := hU_7.cell 11
 have c_hU12 := hU_7.cell 12
 have c_hF0 := hF_7.cell 0
 go_wp2_with fail
 refine (HAW.out _ (ht.call b07)).mono ?_
 rintro _ w8 ⟨rfl, b8⟩
 clear c_hX0 c_hX1 c_hX2 c_hX3 c_hX4 c_hX5 c_hX6 c_hX7 c_hX8 c_hX9 c_hX10 c_hX11 c_hX12 c_hU0 c_hU1 c_hU2 c_hU3 c_hU4 c_hU5 c_hU6 c_hU7 c_hU8 c_hU9 c_hU10 c_hU11 c_hU12 c_hF0
 have b08 := btr b07 b8 b07.size
 have hX_8 := hX_7.below b8 hX_7.lt
 clear hX_7
 have s3_8 := s3_7.call b8
 clear s3_7
 have hU_8 := hU_7.below b8 hU_7.lt
 clear hU_7
 have hF_8 := hF_7.below b8 hF_7.lt
 clear hF_7
 have c_hX0 := hX_8.cell 0
 have c_hX1 := hX_8.cell 1
 have c_hX2 := hX_8.cell 2
 have c_hX3 := hX_8.cell 3
 have c_hX4 := hX_8.cell 4
 have c_hX5 := hX_8.cell 5
 have c_hX6 := hX_8.cell 6
 have c_hX7 := hX_8.cell 7
 have c_hX8 := hX_8.cell 8
 have c_hX9 := hX_8.cell 9
 have c_hX10 := hX_8.cell 10
 have c_hX11 := hX_8.cell 11
 have c_hX12 := hX_8.cell 12
 have c_hU0 := hU_8.cell 0
 have c_hU1 := hU_8.cell 1
 have c_hU2 := hU_8.cell 2
 have c_hU3 := hU_8.cell 3
 have c_hU4 := hU_8.cell 4
 have c_hU5 := hU_8.cell 5
 have c_hU6 := hU_8.cell 6
 have c_hU7 := hU_8.cell 7
 have c_hU8 := hU_8.cell 8
 have c_hU9 := hU_8.cell 9
 have c_hU10 := hU_8.cell 10
 have c_hU11 := hU_8.cell 11
 have c_hU12 := hU_8.cell 12
 have c_hF0 := hF_8.cell 0
 go_wp2_with fail
 go_ret
 exact ⟨rfl, b08⟩
end Go.Proofs.YthgjknmfghjioaaGreatDoor

namespace Go.Proofs.YthgjknmfghjioaaGreatDoor
open Go.ChangeShapes Go.WideShapes Go.RowKit Go.Deep Go.Joins
set_option linter.unusedVariables false
theorem pick_list {α : Type} {p : Nat → α → Prop} : ∀ (n : Nat), (∀ i, i < n → ∃ a, p i a) → ∃ l : List α, l.length = n ∧ ∀ i a, l[i]? = some a → p i a
 | 0, _ => ⟨[], rfl, fun i a h => by simp at h⟩
 | n + 1, h => by
  obtain ⟨l, hl, hp⟩ := pick_list n (fun i hi => h i (by omega))
  obtain ⟨a, ha⟩ := h n (by omega)
  refine ⟨l ++ [a], by simp [hl], fun i x hx => ?_⟩
  rcases Nat.lt_or_ge i l.length with hi | hi
  ·rw [List.getElem?_append_left hi] at hx
   exact hp i x hx
  ·have hi2 : i = l.length := by
    have := (List.getElem?_eq_some_iff.1 hx).1
    simp at this
    omega
   subst hi2
   rw [List.getElem?_append_right (Nat.le_refl _)] at hx
   simp at hx
   subst hx
   rw [hl]
   exact ha
section
variable {H : Type} {enc : TypeId × Value → H} {P : Program} {W : World} {r : Reach} {base : Nat} {t e : TypeId} {v : Value} {d : DataW H} {p : List MemPlace}
/-- A slice of values, each of some cells, opened, with what each datum says. -/
theorem open_rows_q {α : Type} {R : Rep α} {Q : DataW H → α → Prop} {size fuel : Nat} {A : Option Addr} {len cap : Nat} {x : DataW H × List MemPlace} (ht : P.underlying t = some (.slice e)) (hc : P.cellsOf e = size) (hs : 0 < size)
  (elem : ∀ (n : Nat) (cs : List Value) (x : DataW H × List MemPlace), cs.length = size → DataW.trod enc P W 0 (fun _ => true) true n e cs = some x → ∃ a : α, R W (Lo W) cs a ∧ Q x.1 a)
  (h : DataW.trod enc P W 0 (fun _ => true) true fuel t [.slice A len cap] = some x) :
  ∃ l : List α, DL R size W (Lo W) A len l ∧ len ≤ cap ∧ cap ≤ maxLen ∧ ∀ a ∈ l, ∃ (es sp : List (DataW H)) (d : DataW H), x.1 = .slice es sp ∧ d ∈ es ∧ Q d a := by
 rcases DataW.trod_slice ht h with ⟨hcs, _⟩ | ⟨a, len', cap', elems, rest, n, _, hcs, hx, _, hl, hm, hlen, hel, _, _⟩
 ·simp at hcs
  obtain ⟨rfl, rfl, rfl⟩ := hcs
  exact ⟨[], DL.none_, Nat.le_refl _, by unfold maxLen; omega, fun a ha => by cases ha⟩
 ·simp at hcs
  obtain ⟨rfl, rfl, rfl⟩ := hcs
  rw [hc] at hel
  have key : ∀ i, i < len → ∃ q : List Value × α, q.1.length = size ∧ R W (Lo W) q.1 q.2 ∧ (∃ d, d ∈ elems.map (·.1) ∧ Q d q.2) ∧ ∃ (b off : Nat), a = ⟨b, off, none⟩ ∧ b < W.heap.size ∧ ∀ (j : Nat) (u : Value), q.1[j]? = some u → W.cell? ⟨b, off + (i * size + j), none⟩ = some u := by
   intro i hi
   have h1 := hel i hi
   have hei : elems[i]? = some elems[i] := List.getElem?_eq_getElem (by omega)
   rw [hei, Option.bind_eq_some_iff] at h1
   obtain ⟨cs, hcs, ht⟩ := h1
   obtain ⟨_, hl2, hcell⟩ := World.cells?_some hcs
   obtain ⟨m, hm, hq⟩ := elem _ cs _ hl2 ht
   have hspot : a.spot = none := by
    have h1 := hel 0 (by omega)
    rw [List.getElem?_eq_getElem (by omega), Option.bind_eq_some_iff] at h1
    obtain ⟨cs, hcs, ht⟩ := h1
    obtain ⟨_, hl2, hcell⟩ := World.cells?_some hcs
    have g0 := hcell 0 (by omega)
    rw [List.getElem?_eq_getElem (by omega)] at g0
    have := World.cell?_spot g0
    simpa [Addr.add] using this
   have g0 := hcell 0 (by omega)
   rw [add_of_add, List.getElem?_eq_getElem (by omega)] at g0
   have hlt := lt_of_cell g0
   rw [block_of_add] at hlt
   obtain ⟨b, off, spot⟩ := a
   simp only at hspot
   subst hspot
   refine ⟨(cs, m), hl2, hm, ⟨_, List.mem_map.2 ⟨_, List.mem_of_getElem? hei, rfl⟩, hq⟩, b, off, rfl, hlt, fun j u hu => ?_⟩
   have hj : j < size := by rw [← hl2]; exact (List.getElem?_eq_some_iff.1 hu).1
   have g := hcell j hj
   rw [add_of_add, addr_add] at g
   rw [g]
   exact hu
  obtain ⟨qs, hql, hqs⟩ := pick_list len key
  have hsz : ∀ cs ∈ qs.map (·.1), cs.length = size := by
   intro cs hcs
   obtain ⟨q, hq, rfl⟩ := List.mem_map.1 hcs
   obtain ⟨i, hi⟩ := List.getElem?_of_mem hq
   exact (hqs i q hi).1
  refine ⟨qs.map (·.2), ⟨qs.map (·.1), by simp, by simp [hql], ⟨by rw [flat_len hsz]; simp [hql], fun hn => ?_⟩, fun i cs x h1 h2 => ?_, hsz⟩, hl, hm, fun y hy => ?_⟩
  ·obtain ⟨q, hq⟩ : ∃ q, qs[0]? = some q := ⟨_, List.getElem?_eq_getElem (by omega)⟩
   obtain ⟨_, _, _, b, off, rfl, hlt, _⟩ := hqs 0 q hq
   refine ⟨b, off, rfl, hlt, fun j u hu => ?_⟩
   have hj : j < len * size := by
    have := (List.getElem?_eq_some_iff.1 hu).1
    rw [flat_len hsz] at this
    simpa [hql] using this
   have hi : j / size < len := Nat.div_lt_of_lt_mul (by rw [Nat.mul_comm]; exact hj)
   obtain ⟨q2, hq2⟩ : ∃ q, qs[j / size]? = some q := ⟨_, List.getElem?_eq_getElem (by omega)⟩
   obtain ⟨_, _, _, b2, off2, e2, _, hc2⟩ := hqs (j / size) q2 hq2
   injection e2 with e3 e4
   subst e3 e4
   have hm2 : j % size < size := Nat.mod_lt _ hs
   have hdm : j / size * size + j % size = j := by rw [Nat.mul_comm]; exact Nat.div_add_mod j size
   have hf := flat_at hsz (i := j / size) (j := j % size) (cs := q2.1) (by simp [hq2]) hm2
   rw [hdm, hu] at hf
   have := hc2 (j % size) u hf.symm
   rwa [hdm] at this
  ·rw [List.getElem?_map, Option.map_eq_some_iff] at h1 h2
   obtain ⟨q, hq, rfl⟩ := h1
   obtain ⟨q', hq', rfl⟩ := h2
   rw [hq] at hq'
   injection hq' with hq'
   subst hq'
   exact (hqs i q hq).2.1
  ·obtain ⟨q, hq, rfl⟩ := List.mem_map.1 hy
   obtain ⟨i, hi⟩ := List.getElem?_of_mem hq
   obtain ⟨_, _, ⟨d, hd, hqd⟩, _⟩ := hqs i q hi
   exact ⟨_, _, d, by rw [hx], hd, hqd⟩
theorem weights_all {e : TypeId} : ∀ {l : List (DataW H)} {d : DataW H}, d ∈ l → ∀ n ∈ d.weights P e, n ∈ DataW.weightsAll P e l
 | d' :: r, d, hd, n, hn => by
  simp only [DataW.weightsAll, List.mem_append]
  rcases List.mem_cons.1 hd with rfl | h
  ·exact Or.inl hn
  ·exact Or.inr (weights_all h n hn)
end
section
variable {H : Type} {enc : TypeId × Value → H} {W : World} {r : Reach} {base : Nat} {v : Value} {d : DataW H} {p : List MemPlace}
/-- A part's numbers have room. -/
def segQ (d : DataW H) (a : Seg) : Prop := a.2 = [] ∨ ∃ N ∈ d.weights Tryz.prog 229, a.2.length * 4 ≤ N
set_option maxRecDepth 100000 in
theorem seg_of_cells (n : Nat) (cs : List Value) (x : DataW H × List MemPlace) (hl : cs.length = 2) (h : DataW.trod enc Tryz.prog W 0 (fun _ => true) true n 229 cs = some x) : ∃ a : Seg, rSeg W (Lo W) cs a ∧ segQ x.1 a := by
 match cs, hl with
 | [c0, c1], _ =>
  obtain ⟨y0, y1, n, hx, _, h0, h1⟩ := trod_struct2 Tryz.underlying229 h
  obtain ⟨a, e0, _, _⟩ := DataW.trod_int Tryz.underlying3 h0
  have k1 : Tryz.prog.cellsOf 3 = 1 := by kernel_rfl
  have k2 : Tryz.prog.cellsOf 72 = 1 := by kernel_rfl
  simp [k1] at e0
  simp [k2] at h1
  subst e0
  rcases DataW.trod_slice Tryz.underlying72 h1 with ⟨hcs, _⟩ | ⟨A, len, cap, elems, rest, _, _, hcs, hy, _, _, _, hlen, _, _, _⟩
  ·simp only [List.cons.injEq, and_true] at hcs
   subst hcs
   exact ⟨(a, []), ⟨none, 0, 0, rfl, NF.none_, Nat.le_refl _⟩, .inl rfl⟩
  ·simp only [List.cons.injEq, and_true] at hcs
   subst hcs
   obtain ⟨l, hb, hlc, _⟩ := open_nums_at Tryz.underlying72 Tryz.underlying22 (by kernel_rfl) h1
   refine ⟨(a, l), ⟨some A, len, cap, rfl, NF.of hb (fun b hb => hb), hlc⟩, .inr ⟨(elems.length + rest.length) * 4, ?_, ?_⟩⟩
   ·have kb : Tryz.prog.bytesOf 22 = 4 := by kernel_rfl
    rw [hx, hy]
    simp [DataW.weights, DataW.weightsEach, Tryz.underlying229, Tryz.underlying72, kb]
   ·show l.length * 4 ≤ _
    have : len = l.length := hb.1
    omega
end
end Go.Proofs.YthgjknmfghjioaaGreatDoor
namespace Go.Proofs.YthgjknmfghjioaaGreatDoor
open Go.ChangeShapes Go.WideShapes Go.RowKit Go.Deep Go.Joins
set_option linter.unusedVariables false
set_option linter.unusedSimpArgs false
section
variable {H : Type} {enc : TypeId × Value → H} {W : World} {r : Reach} {base : Nat} {v : Value} {d : DataW H} {p : List MemPlace}
set_option maxRecDepth 100000 in
theorem raw_of_cells (n : Nat) (cs : List Value) (x : DataW H × List MemPlace) (hl : cs.length = 3) (h : DataW.trod enc Tryz.prog W 0 (fun _ => true) true n 168 cs = some x) : ∃ a : RawV, rRaw W (Lo W) cs a := by
 match cs, hl with
 | [c0, c1, c2], _ =>
  obtain ⟨y0, y1, y2, n, _, _, h0, h1, h2⟩ := trod_struct3 Tryz.underlying168 h
  have k1 : Tryz.prog.cellsOf 3 = 1 := by kernel_rfl
  have k2 : Tryz.prog.cellsOf 38 = 1 := by kernel_rfl
  simp [k1] at h0 h1
  simp [k2] at h2
  obtain ⟨a, e0, _, wa⟩ := DataW.trod_int Tryz.underlying3 h0
  obtain ⟨b, e1, _, wb⟩ := DataW.trod_int Tryz.underlying3 h1
  simp only [List.cons.injEq, and_true] at e0 e1
  subst e0 e1
  rcases DataW.trod_slice Tryz.underlying38 h2 with ⟨hcs, _⟩ | ⟨A, len, cap, _, _, _, _, hcs, _⟩
  ·simp only [List.cons.injEq, and_true] at hcs
   subst hcs
   exact ⟨(a, b, []), none, 0, 0, rfl, BF.of (B := 0) BS.none_ (fun b hb => absurd hb (by omega)), Nat.le_refl _, wa, wb⟩
  ·simp only [List.cons.injEq, and_true] at hcs
   subst hcs
   obtain ⟨l, hb, hl, _⟩ := open_bytes_at Tryz.underlying38 Tryz.underlying5 (by kernel_rfl) h2
   exact ⟨(a, b, l), some A, len, cap, rfl, BF.of hb (fun b hb => hb), hl, wa, wb⟩
theorem room_of {e : DataW H} {l : List Seg} (hz : ∀ N ∈ e.weights Tryz.prog 71, N ≤ reachBytes) (hq : ∀ a ∈ l, ∃ (es sp : List (DataW H)) (d : DataW H), e = .slice es sp ∧ d ∈ es ∧ segQ d a) : ∀ x ∈ l, x.2.length ≤ big32 := by
 intro x hx
 obtain ⟨es, sp, dd, e1, hm, hQ⟩ := hq x hx
 rcases hQ with h0 | ⟨N, hN, hle⟩
 ·rw [h0]; exact Nat.zero_le _
 ·have hw : N ∈ e.weights Tryz.prog 71 := by
   rw [e1]
   simp only [DataW.weights, Tryz.underlying71, List.mem_cons, List.mem_append]
   exact .inr (.inl (weights_all hm N hN))
  have := hz N hw
  have hr : reachBytes = 140737488351232 := rfl
  unfold big32
  omega
end
end Go.Proofs.YthgjknmfghjioaaGreatDoor
namespace Go.Proofs.YthgjknmfghjioaaGreatDoor
open Go.ChangeShapes Go.WideShapes Go.RowKit
end Go.Proofs.YthgjknmfghjioaaGreatDoor

namespace Go.Proofs.YthgjknmfghjioaaGreatDoor
open Go.ChangeShapes Go.WideShapes Go.RowKit Go.Deep Go.Joins
set_option linter.unusedVariables false
set_option linter.unusedSimpArgs false
section
variable {H : Type} {enc : TypeId × Value → H} {W : World} {r : Reach} {base : Nat} {v : Value} {d : DataW H} {p : List MemPlace}
set_option maxRecDepth 100000 in
theorem attr_of_cells (fuel : Nat) (cs : List Value) (d : DataW H) (p : List MemPlace) (hl : cs.length = 11) (hf : DataW.trod enc Tryz.prog W 0 (fun _ => true) true fuel 75 cs = some (d, p)) (hz : ∀ N ∈ d.weights Tryz.prog 75, N ≤ reachBytes) :
  ∃ (o : Int) (A : Option Addr) (n c : Nat) (path : List Seg) (nx md pf : Int) (at_ ha : Bool) (gs ga : Int) (A1 : Option Addr) (n1 c1 : Nat) (comms : List Int) (A2 : Option Addr) (n2 c2 : Nat) (raws : List RawV), cs = [.int .i64 o, .slice A n c, .int .u32 nx, .int .i64 md, .int .i64 pf, .bool at_, .bool ha, .int .u32 gs, .int .u32 ga, .slice A1 n1 c1, .slice A2 n2 c2] ∧ DL rSeg 2 W (Lo W) A n path ∧ NF W (Lo W) A1 n1 comms ∧ DL rRaw 3 W (Lo W) A2 n2 raws ∧ (0 ≤ nx ∧ nx < 4294967296 ∧ 0 ≤ gs ∧ gs < 4294967296 ∧ 0 ≤ ga ∧ ga < 4294967296) ∧ ∀ x ∈ path, x.2.length ≤ big32 := by
 have k1 : Tryz.prog.cellsOf 3 = 1 := by kernel_rfl
 have k2 : Tryz.prog.cellsOf 22 = 1 := by kernel_rfl
 have k3 : Tryz.prog.cellsOf 4 = 1 := by kernel_rfl
 have k4 : Tryz.prog.cellsOf 71 = 1 := by kernel_rfl
 have k5 : Tryz.prog.cellsOf 72 = 1 := by kernel_rfl
 have k6 : Tryz.prog.cellsOf 73 = 1 := by kernel_rfl
 obtain ⟨c0, c1, c2, c3, c4, c5, c6, c7, c8, c9, c10, rfl⟩ : ∃ c0 c1 c2 c3 c4 c5 c6 c7 c8 c9 c10, cs = [c0, c1, c2, c3, c4, c5, c6, c7, c8, c9, c10] := by
  match cs, hl with
  | [c0, c1, c2, c3, c4, c5, c6, c7, c8, c9, c10], _ => exact ⟨c0, c1, c2, c3, c4, c5, c6, c7, c8, c9, c10, rfl⟩
 obtain ⟨xs, m, _, hd, _, hlen, hf⟩ := DataW.trod_struct Tryz.underlying75 hf
 match xs, hlen with
 | [y0, y1, y2, y3, y4, y5, y6, y7, y8, y9, y10], _ =>
  have h0 := hf 0 _ rfl
  have h1 := hf 1 _ rfl
  have h2 := hf 2 _ rfl
  have h3 := hf 3 _ rfl
  have h4 := hf 4 _ rfl
  have h5 := hf 5 _ rfl
  have h6 := hf 6 _ rfl
  have h7 := hf 7 _ rfl
  have h8 := hf 8 _ rfl
  have h9 := hf 9 _ rfl
  have h10 := hf 10 _ rfl
  simp [k1, Value.cells] at h0 h3 h4
  simp [k2, Value.cells] at h2 h7 h8
  simp [k3, Value.cells] at h5 h6
  simp [k4, Value.cells] at h1
  simp [k5, Value.cells] at h9
  simp [k6, Value.cells] at h10
  obtain ⟨o, e0, _, _⟩ := DataW.trod_int Tryz.underlying3 h0
  obtain ⟨nx, e2, _, w2⟩ := DataW.trod_int Tryz.underlying22 h2
  obtain ⟨md, e3, _, _⟩ := DataW.trod_int Tryz.underlying3 h3
  obtain ⟨pf, e4, _, _⟩ := DataW.trod_int Tryz.underlying3 h4
  obtain ⟨at_, e5, _⟩ := DataW.trod_bool Tryz.underlying4 h5
  obtain ⟨ha, e6, _⟩ := DataW.trod_bool Tryz.underlying4 h6
  obtain ⟨gs, e7, _, w7⟩ := DataW.trod_int Tryz.underlying22 h7
  obtain ⟨ga, e8, _, w8⟩ := DataW.trod_int Tryz.underlying22 h8
  simp only [List.cons.injEq, and_true] at e0 e2 e3 e4 e5 e6 e7 e8
  subst e0 e2 e3 e4 e5 e6 e7 e8
  have w2 : 0 ≤ nx ∧ nx ≤ 4294967295 := by simpa [Lit.wf, IntKind.min, IntKind.max, IntKind.signed, IntKind.bits] using w2
  have w7 : 0 ≤ gs ∧ gs ≤ 4294967295 := by simpa [Lit.wf, IntKind.min, IntKind.max, IntKind.signed, IntKind.bits] using w7
  have w8 : 0 ≤ ga ∧ ga ≤ 4294967295 := by simpa [Lit.wf, IntKind.min, IntKind.max, IntKind.signed, IntKind.bits] using w8
  have hwt : ∀ N ∈ y1.1.weights Tryz.prog 71, N ≤ reachBytes := fun N hN => hz N (by
   have e : d = .agg [y0.1, y1.1, y2.1, y3.1, y4.1, y5.1, y6.1, y7.1, y8.1, y9.1, y10.1] := by
    have := congrArg (·.1) hd
    simpa using this
   rw [e]
   simp only [DataW.weights, DataW.weightsEach, Tryz.underlying75]
   simp [DataW.weightsEach, hN])
  have hpath : ∃ (A : Option Addr) (n c : Nat) (path : List Seg), c1 = .slice A n c ∧ DL rSeg 2 W (Lo W) A n path ∧ ∀ x ∈ path, x.2.length ≤ big32 := by
   rcases DataW.trod_slice Tryz.underlying71 h1 with ⟨hcs, _⟩ | ⟨A, len, cap, _, _, _, _, hcs, _⟩
   ·simp only [List.cons.injEq, and_true] at hcs
    exact ⟨none, 0, 0, [], hcs, DL.none_, fun x hx => by cases hx⟩
   ·simp only [List.cons.injEq, and_true] at hcs
    subst hcs
    obtain ⟨l, hdl, _, _, hq⟩ := open_rows_q Tryz.underlying71 (by kernel_rfl) (by omega) seg_of_cells h1
    exact ⟨some A, len, cap, l, rfl, hdl, room_of hwt hq⟩
  have hcomm : ∃ (A : Option Addr) (n c : Nat) (l : List Int), c9 = .slice A n c ∧ NF W (Lo W) A n l := by
   rcases DataW.trod_slice Tryz.underlying72 h9 with ⟨hcs, _⟩ | ⟨A, len, cap, _, _, _, _, hcs, _⟩
   ·simp only [List.cons.injEq, and_true] at hcs
    exact ⟨none, 0, 0, [], hcs, NF.none_⟩
   ·simp only [List.cons.injEq, and_true] at hcs
    subst hcs
    obtain ⟨l, hb, _⟩ := open_nums_at Tryz.underlying72 Tryz.underlying22 (by kernel_rfl) h9
    exact ⟨some A, len, cap, l, rfl, NF.of hb (fun b hb => hb)⟩
  have hraw : ∃ (A : Option Addr) (n c : Nat) (l : List RawV), c10 = .slice A n c ∧ DL rRaw 3 W (Lo W) A n l := by
   rcases DataW.trod_slice Tryz.underlying73 h10 with ⟨hcs, _⟩ | ⟨A, len, cap, _, _, _, _, hcs, _⟩
   ·simp only [List.cons.injEq, and_true] at hcs
    exact ⟨none, 0, 0, [], hcs, DL.none_⟩
   ·simp only [List.cons.injEq, and_true] at hcs
    subst hcs
    obtain ⟨l, hdl, _, _, _⟩ := open_rows_q (R := rRaw) (size := 3) (Q := fun _ _ => True) Tryz.underlying73 (by kernel_rfl) (by omega) (fun n cs x hl h => by
     obtain ⟨a, ha⟩ := raw_of_cells n cs x hl h
     exact ⟨a, ha, trivial⟩) h10
    exact ⟨some A, len, cap, l, rfl, hdl⟩
  obtain ⟨A, n, c, path, rfl, hp, hr⟩ := hpath
  obtain ⟨A1, n1, c1', comms, rfl, hc⟩ := hcomm
  obtain ⟨A2, n2, c2', raws, rfl, hw⟩ := hraw
  exact ⟨o, A, n, c, path, nx, md, pf, at_, ha, gs, ga, A1, n1, c1', comms, A2, n2, c2', raws, rfl, hp, hc, hw, ⟨w2.1, by omega, w7.1, by omega, w8.1, by omega⟩, hr⟩
set_option maxRecDepth 100000 in
theorem pfx_of_cells (n : Nat) (cs : List Value) (x : DataW H × List MemPlace) (hl : cs.length = 2) (h : DataW.trod enc Tryz.prog W 0 (fun _ => true) true n 146 cs = some x) : ∃ a : Pfx, rPfx W (Lo W) cs a := by
 match cs, hl with
 | [c0, c1], _ =>
  obtain ⟨y0, y1, n, _, _, h0, h1⟩ := trod_struct2 Tryz.underlying146 h
  have k1 : Tryz.prog.cellsOf 22 = 1 := by kernel_rfl
  have k2 : Tryz.prog.cellsOf 3 = 1 := by kernel_rfl
  obtain ⟨a, e0, _, wa⟩ := DataW.trod_int Tryz.underlying22 h0
  obtain ⟨b, e1, _, wb⟩ := DataW.trod_int Tryz.underlying3 h1
  simp [k1] at e0
  simp [k2] at e1
  subst e0 e1
  have wa : 0 ≤ a ∧ a ≤ 4294967295 := by simpa [Lit.wf, IntKind.min, IntKind.max, IntKind.signed, IntKind.bits] using wa
  obtain ⟨a, rfl⟩ := Int.eq_ofNat_of_zero_le wa.1
  exact ⟨(a, b), rfl, by show a < _; omega, wb⟩
set_option maxRecDepth 100000 in
theorem open_upd (hv : Value.okWide Tryz.prog W r base 77 v) (h : DataW.Trod enc Tryz.prog W 0 (fun _ => true) true 77 v d p) (hz : ∀ N ∈ d.weights Tryz.prog 77, N ≤ reachBytes) :
  ∃ (Ag : Option Addr) (ng cg : Nat) (gone : List Pfx) (o : Int) (A : Option Addr) (n c : Nat) (path : List Seg) (nx md pf : Int) (at_ ha : Bool) (gs ga : Int) (A1 : Option Addr) (n1 c1 : Nat) (comms : List Int) (A2 : Option Addr) (n2 c2 : Nat) (raws : List RawV) (An : Option Addr) (nn cn : Nat) (news : List Pfx), v = .agg #[.slice Ag ng cg, .int .i64 o, .slice A n c, .int .u32 nx, .int .i64 md, .int .i64 pf, .bool at_, .bool ha, .int .u32 gs, .int .u32 ga, .slice A1 n1 c1, .slice A2 n2 c2, .slice An nn cn] ∧ DL rPfx 2 W (Lo W) Ag ng gone ∧ DL rSeg 2 W (Lo W) A n path ∧ NF W (Lo W) A1 n1 comms ∧ DL rRaw 3 W (Lo W) A2 n2 raws ∧ DL rPfx 2 W (Lo W) An nn news ∧ (0 ≤ nx ∧ nx < 4294967296 ∧ 0 ≤ gs ∧ gs < 4294967296 ∧ 0 ≤ ga ∧ ga < 4294967296) ∧ ∀ x ∈ path, x.2.length ≤ big32 := by
 have k0 : Tryz.prog.cellsOf 77 = 13 := by kernel_rfl
 have k1 : Tryz.prog.cellsOf 70 = 1 := by kernel_rfl
 have k2 : Tryz.prog.cellsOf 75 = 11 := by kernel_rfl
 obtain ⟨cs, rfl, hsz⟩ := okWide_struct Tryz.underlying77 hv
 obtain ⟨c0, c1, c2, c3, c4, c5, c6, c7, c8, c9, c10, c11, c12, rfl⟩ : ∃ c0 c1 c2 c3 c4 c5 c6 c7 c8 c9 c10 c11 c12, cs = #[c0, c1, c2, c3, c4, c5, c6, c7, c8, c9, c10, c11, c12] := by
  obtain ⟨l⟩ := cs
  match l, hsz.trans k0 with
  | [c0, c1, c2, c3, c4, c5, c6, c7, c8, c9, c10, c11, c12], _ => exact ⟨c0, c1, c2, c3, c4, c5, c6, c7, c8, c9, c10, c11, c12, rfl⟩
 obtain ⟨fuel, hf⟩ := h
 obtain ⟨xs, m, _, hd, _, hlen, hf⟩ := DataW.trod_struct Tryz.underlying77 hf
 match xs, hlen with
 | [y0, y1, y2], _ =>
  have h0 := hf 0 _ rfl
  have h1 := hf 1 _ rfl
  have h2 := hf 2 _ rfl
  simp [k1, k2, Value.cells] at h0 h1 h2
  have e : d = .agg [y0.1, y1.1, y2.1] := by
   have := congrArg (·.1) hd
   simpa using this
  have hwt : ∀ N ∈ y1.1.weights Tryz.prog 75, N ≤ reachBytes := fun N hN => hz N (by
   rw [e]
   simp only [DataW.weights, DataW.weightsEach, Tryz.underlying77]
   simp [DataW.weightsEach, hN])
  have hpf : ∀ {cc : Value} {y : DataW H × List MemPlace} {m : Nat}, DataW.trod enc Tryz.prog W 0 (fun _ => true) true m 70 [cc] = some y → ∃ (A : Option Addr) (n c : Nat) (l : List Pfx), cc = .slice A n c ∧ DL rPfx 2 W (Lo W) A n l := by
   intro cc y m hh
   rcases DataW.trod_slice Tryz.underlying70 hh with ⟨hcs, _⟩ | ⟨A, len, cap, _, _, _, _, hcs, _⟩
   ·simp only [List.cons.injEq, and_true] at hcs
    exact ⟨none, 0, 0, [], hcs, DL.none_⟩
   ·simp only [List.cons.injEq, and_true] at hcs
    subst hcs
    obtain ⟨l, hdl, _, _, _⟩ := open_rows_q (R := rPfx) (size := 2) (Q := fun _ _ => True) Tryz.underlying70 (by kernel_rfl) (by omega) (fun n cs x hl h => by
     obtain ⟨a, ha⟩ := pfx_of_cells n cs x hl h
     exact ⟨a, ha, trivial⟩) hh
    exact ⟨some A, len, cap, l, rfl, hdl⟩
  obtain ⟨Ag, ng, cg, gone, rfl, hg⟩ := hpf h0
  obtain ⟨An, nn, cn, news, rfl, hm⟩ := hpf h2
  obtain ⟨o, A, n, c, path, nx, md, pf, at_, ha, gs, ga, A1, n1, c1', comms, A2, n2, c2', raws, hcs, hp, hc, hw, hwf, hr⟩ := attr_of_cells _ _ _ _ rfl h1 hwt
  simp only [List.cons.injEq, and_true] at hcs
  obtain ⟨rfl, rfl, rfl, rfl, rfl, rfl, rfl, rfl, rfl, rfl, rfl⟩ := hcs
  exact ⟨Ag, ng, cg, gone, o, A, n, c, path, nx, md, pf, at_, ha, gs, ga, A1, n1, c1', comms, A2, n2, c2', raws, An, nn, cn, news, rfl, hg, hp, hc, hw, hm, hwf, hr⟩
end
end Go.Proofs.YthgjknmfghjioaaGreatDoor
