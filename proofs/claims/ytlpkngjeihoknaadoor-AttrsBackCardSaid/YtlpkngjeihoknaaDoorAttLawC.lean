/- The statements AttrsBack, AttrsNarrow: their walks. Conditions: the table of looks. -/
import Derived.Test.YtlpkngjeihoknaaDoorProg
import Derived.WalkKit
import Derived.WalkSpells
import Derived.WalkLawsBesides
import Derived.Outline
import Derived.Deep.QuietTactic
import Derived.BigQuiet
import Derived.Handy
import Derived.Lib.Hide
import Derived.Laws.Cover4
import Derived.OrdersHeld
import Derived.Deep.RegionHeld
import Derived.Deep.DeepCutAuto
import Derived.Deep.CutBlock
import Derived.Test.YtlpkngjeihoknaaDoorAttSW
namespace Go.Proofs.YtlpkngjeihoknaaDoor
open Go.RowKit
set_option linter.unusedSimpArgs false
set_option linter.unusedVariables false
set_option maxHeartbeats 16000000 in
set_option maxRecDepth 100000 in
theorem lawAttrsBack (w : World) (o : Int) (A : Option Addr) (n : Nat) (c : Nat) (path : List Seg) (nx : Int) (md : Int) (pf : Int) (at_ : Bool) (ha : Bool) (gs : Int) (ga : Int) (A1 : Option Addr) (n1 : Nat) (c1 : Nat) (comms : List Int) (A2 : Option Addr) (n2 : Nat) (c2 : Nat) (raws : List RawV) (hp : DL rSeg 2 w (Lo w) A n path) (hcm : NF w (Lo w) A1 n1 comms) (hrw : DL rRaw 3 w (Lo w) A2 n2 raws) (hwf : 0 ≤ nx ∧ nx < 4294967296 ∧ 0 ≤ gs ∧ gs < 4294967296 ∧ 0 ≤ ga ∧ ga < 4294967296) (hrm : ∀ x ∈ path, x.2.length ≤ big32) (ht : LookTab w) :
    Calls Tryd.prog 14 #[.agg #[.int .i64 o, .slice A n c, .int .u32 nx, .int .i64 md, .int .i64 pf, .bool at_, .bool ha, .int .u32 gs, .int .u32 ga, .slice A1 n1 c1, .slice A2 n2 c2]] w fun en w' => en = .returned (.bool true) ∧ Below w.heap.size w w' := by
  obtain ⟨r, hr⟩ : ∃ r, fewAt path comms raws = r := ⟨_, rfl⟩
  have HFW := Lib.hid (show ∀ w', DL rSeg 2 w' (Lo w') A n path → DL rRaw 3 w' (Lo w') A2 n2 raws → Calls Tryd.prog 46 #[.agg #[.int .i64 o, .slice A n c, .int .u32 nx, .int .i64 md, .int .i64 pf, .bool at_, .bool ha, .int .u32 gs, .int .u32 ga, .slice A1 n1 c1, .slice A2 n2 c2]] w' fun en w'' => en = .returned (.bool r) ∧ Below w'.heap.size w' w'' from fun w' h1 h2 => by rw [← hr]; exact law04Few o A n c path nx md pf at_ ha gs ga A1 n1 c1 comms A2 n2 c2 raws w' h1 hcm.1 h2)
  have HAW := Lib.hid (show ∀ w', LookTab w' → Calls Tryd.prog 47 #[] w' fun en w'' => en = .returned (.bool true) ∧ Below w'.heap.size w' w'' from fun w' h => awake04 w' h (lt_of_cell (h 0 (by omega)).1))
  cases r
  case false =>
    clear hr hrm
    obtain ⟨W, hW, hX, b0⟩ := box1c w #[.int .i64 o, .slice A n c, .int .u32 nx, .int .i64 md, .int .i64 pf, .bool at_, .bool ha, .int .u32 gs, .int .u32 ga, .slice A1 n1 c1, .slice A2 n2 c2] 54
    go_enter Tryd.func14, Tryd.ntmps14
    go_upto_region 1 with fail
    try rw [hW]
    obtain ⟨q, hq⟩ : ∃ q, w.heap.size = q := ⟨_, rfl⟩
    try rw [hq]
    rw [hq] at hX
    clear hW hq
    have c_hX0 := hX.cell 0
    have c_hX1 := hX.cell 1
    have c_hX2 := hX.cell 2
    have c_hX3 := hX.cell 3
    have c_hX4 := hX.cell 4
    have c_hX5 := hX.cell 5
    have c_hX6 := hX.cell 6
    have c_hX7 := hX.cell 7
    have c_hX8 := hX.cell 8
    have c_hX9 := hX.cell 9
    have c_hX10 := hX.cell 10
    go_wp2_with fail
    refine (HFW.out _ (hp.segB4 b0) (hrw.rawB4 b0)).mono ?_
    rintro _ w1 ⟨rfl, b1⟩
    clear c_hX0 c_hX1 c_hX2 c_hX3 c_hX4 c_hX5 c_hX6 c_hX7 c_hX8 c_hX9 c_hX10
    have b01 := btr b0 b1 b0.size
    have hX_1 := hX.below b1 hX.lt
    have c_hX0 := hX_1.cell 0
    have c_hX1 := hX_1.cell 1
    have c_hX2 := hX_1.cell 2
    have c_hX3 := hX_1.cell 3
    have c_hX4 := hX_1.cell 4
    have c_hX5 := hX_1.cell 5
    have c_hX6 := hX_1.cell 6
    have c_hX7 := hX_1.cell 7
    have c_hX8 := hX_1.cell 8
    have c_hX9 := hX_1.cell 9
    have c_hX10 := hX_1.cell 10
    go_wp2_with fail
    refine (HAW.out _ (ht.call b01)).mono ?_
    rintro _ w2 ⟨rfl, b2⟩
    clear c_hX0 c_hX1 c_hX2 c_hX3 c_hX4 c_hX5 c_hX6 c_hX7 c_hX8 c_hX9 c_hX10
    have b02 := btr b01 b2 b01.size
    have hX_2 := hX_1.below b2 hX_1.lt
    clear hX_1
    have c_hX0 := hX_2.cell 0
    have c_hX1 := hX_2.cell 1
    have c_hX2 := hX_2.cell 2
    have c_hX3 := hX_2.cell 3
    have c_hX4 := hX_2.cell 4
    have c_hX5 := hX_2.cell 5
    have c_hX6 := hX_2.cell 6
    have c_hX7 := hX_2.cell 7
    have c_hX8 := hX_2.cell 8
    have c_hX9 := hX_2.cell 9
    have c_hX10 := hX_2.cell 10
    go_wp2_with fail
    go_ret
    exact ⟨rfl, b02⟩
  obtain ⟨hfw, hc60, hr12, hd400⟩ := fewAt_of hr
  have hfa := fewA_of hfw hrm
  have hn12 : n ≤ 12 := by have := hp.len; omega
  have HS := Lib.hid hfa.2
  have hn1c : n1 ≤ 60 := by have := hcm.1; omega
  have hn2c : n2 ≤ 12 := by have := hrw.len; omega
  obtain ⟨ra, hra⟩ : ∃ x, rightAt (⟨o, path, nx, md, pf, at_, ha, gs, ga, comms, raws⟩ : At) = x := ⟨_, rfl⟩
  have HR2 := Lib.hid (show ∀ w', DL rSeg 2 w' (Lo w') A n path → DL rRaw 3 w' (Lo w') A2 n2 raws → Calls Tryd.prog 49 #[.agg #[.int .i64 o, .slice A n c, .int .u32 nx, .int .i64 md, .int .i64 pf, .bool at_, .bool ha, .int .u32 gs, .int .u32 ga, .slice A1 n1 c1, .slice A2 n2 c2]] w' fun en w'' => en = .returned (.bool ra) ∧ Below w'.heap.size w' w'' from fun w' h1 h2 => by rw [← hra]; exact refRight04 o A n c path nx md pf at_ ha gs ga A1 n1 c1 comms A2 n2 c2 raws w' h1 hcm.1 h2 (by omega) (by omega))
  obtain ⟨nb, hnb⟩ : ∃ x, nextA nx = x := ⟨_, rfl⟩
  have HN2 := Lib.hid (show ∀ w', Calls Tryd.prog 53 #[.int .u32 nx] w' fun en w'' => en = .returned (.bool nb) ∧ Below w'.heap.size w' w'' from fun w' => by rw [← hnb]; exact (refNext04 nx w' hwf.1 hwf.2.1).mono fun e w'' hx => ⟨hx.1, by rw [← hx.2]; exact Below.refl _ _⟩)
  cases ra
  case false =>
    clear hra hnb hr hrm hfw hc60 hr12 hd400 hfa hn12 hn1c hn2c HS hwf
    obtain ⟨W, hW, hX, b0⟩ := box1c w #[.int .i64 o, .slice A n c, .int .u32 nx, .int .i64 md, .int .i64 pf, .bool at_, .bool ha, .int .u32 gs, .int .u32 ga, .slice A1 n1 c1, .slice A2 n2 c2] 54
    go_enter Tryd.func14, Tryd.ntmps14
    go_upto_region 1 with fail
    try rw [hW]
    obtain ⟨q, hq⟩ : ∃ q, w.heap.size = q := ⟨_, rfl⟩
    try rw [hq]
    rw [hq] at hX
    clear hW hq
    have c_hX0 := hX.cell 0
    have c_hX1 := hX.cell 1
    have c_hX2 := hX.cell 2
    have c_hX3 := hX.cell 3
    have c_hX4 := hX.cell 4
    have c_hX5 := hX.cell 5
    have c_hX6 := hX.cell 6
    have c_hX7 := hX.cell 7
    have c_hX8 := hX.cell 8
    have c_hX9 := hX.cell 9
    have c_hX10 := hX.cell 10
    go_wp2_with fail
    refine (HFW.out _ (hp.segB4 b0) (hrw.rawB4 b0)).mono ?_
    rintro _ w1 ⟨rfl, b1⟩
    clear c_hX0 c_hX1 c_hX2 c_hX3 c_hX4 c_hX5 c_hX6 c_hX7 c_hX8 c_hX9 c_hX10
    have b01 := btr b0 b1 b0.size
    have hX_1 := hX.below b1 hX.lt
    have c_hX0 := hX_1.cell 0
    have c_hX1 := hX_1.cell 1
    have c_hX2 := hX_1.cell 2
    have c_hX3 := hX_1.cell 3
    have c_hX4 := hX_1.cell 4
    have c_hX5 := hX_1.cell 5
    have c_hX6 := hX_1.cell 6
    have c_hX7 := hX_1.cell 7
    have c_hX8 := hX_1.cell 8
    have c_hX9 := hX_1.cell 9
    have c_hX10 := hX_1.cell 10
    go_wp2_with fail
    refine (HR2.out _ (hp.segB4 b01) (hrw.rawB4 b01)).mono ?_
    rintro _ w2 ⟨rfl, b2⟩
    clear c_hX0 c_hX1 c_hX2 c_hX3 c_hX4 c_hX5 c_hX6 c_hX7 c_hX8 c_hX9 c_hX10
    have b02 := btr b01 b2 b01.size
    have hX_2 := hX_1.below b2 hX_1.lt
    clear hX_1
    have c_hX0 := hX_2.cell 0
    have c_hX1 := hX_2.cell 1
    have c_hX2 := hX_2.cell 2
    have c_hX3 := hX_2.cell 3
    have c_hX4 := hX_2.cell 4
    have c_hX5 := hX_2.cell 5
    have c_hX6 := hX_2.cell 6
    have c_hX7 := hX_2.cell 7
    have c_hX8 := hX_2.cell 8
    have c_hX9 := hX_2.cell 9
    have c_hX10 := hX_2.cell 10
    go_wp2_with fail
    refine (HAW.out _ (ht.call b02)).mono ?_
    rintro _ w3 ⟨rfl, b3⟩
    clear c_hX0 c_hX1 c_hX2 c_hX3 c_hX4 c_hX5 c_hX6 c_hX7 c_hX8 c_hX9 c_hX10
    have b03 := btr b02 b3 b02.size
    have hX_3 := hX_2.below b3 hX_2.lt
    clear hX_2
    have c_hX0 := hX_3.cell 0
    have c_hX1 := hX_3.cell 1
    have c_hX2 := hX_3.cell 2
    have c_hX3 := hX_3.cell 3
    have c_hX4 := hX_3.cell 4
    have c_hX5 := hX_3.cell 5
    have c_hX6 := hX_3.cell 6
    have c_hX7 := hX_3.cell 7
    have c_hX8 := hX_3.cell 8
    have c_hX9 := hX_3.cell 9
    have c_hX10 := hX_3.cell 10
    go_wp2_with fail
    go_ret
    exact ⟨rfl, b03⟩
  cases nb
  case false =>
    clear hra hnb hr hrm hfw hc60 hr12 hd400 hfa hn12 hn1c hn2c HS hwf
    obtain ⟨W, hW, hX, b0⟩ := box1c w #[.int .i64 o, .slice A n c, .int .u32 nx, .int .i64 md, .int .i64 pf, .bool at_, .bool ha, .int .u32 gs, .int .u32 ga, .slice A1 n1 c1, .slice A2 n2 c2] 54
    go_enter Tryd.func14, Tryd.ntmps14
    go_upto_region 1 with fail
    try rw [hW]
    obtain ⟨q, hq⟩ : ∃ q, w.heap.size = q := ⟨_, rfl⟩
    try rw [hq]
    rw [hq] at hX
    clear hW hq
    have c_hX0 := hX.cell 0
    have c_hX1 := hX.cell 1
    have c_hX2 := hX.cell 2
    have c_hX3 := hX.cell 3
    have c_hX4 := hX.cell 4
    have c_hX5 := hX.cell 5
    have c_hX6 := hX.cell 6
    have c_hX7 := hX.cell 7
    have c_hX8 := hX.cell 8
    have c_hX9 := hX.cell 9
    have c_hX10 := hX.cell 10
    go_wp2_with fail
    refine (HFW.out _ (hp.segB4 b0) (hrw.rawB4 b0)).mono ?_
    rintro _ w1 ⟨rfl, b1⟩
    clear c_hX0 c_hX1 c_hX2 c_hX3 c_hX4 c_hX5 c_hX6 c_hX7 c_hX8 c_hX9 c_hX10
    have b01 := btr b0 b1 b0.size
    have hX_1 := hX.below b1 hX.lt
    have c_hX0 := hX_1.cell 0
    have c_hX1 := hX_1.cell 1
    have c_hX2 := hX_1.cell 2
    have c_hX3 := hX_1.cell 3
    have c_hX4 := hX_1.cell 4
    have c_hX5 := hX_1.cell 5
    have c_hX6 := hX_1.cell 6
    have c_hX7 := hX_1.cell 7
    have c_hX8 := hX_1.cell 8
    have c_hX9 := hX_1.cell 9
    have c_hX10 := hX_1.cell 10
    go_wp2_with fail
    refine (HR2.out _ (hp.segB4 b01) (hrw.rawB4 b01)).mono ?_
    rintro _ w2 ⟨rfl, b2⟩
    clear c_hX0 c_hX1 c_hX2 c_hX3 c_hX4 c_hX5 c_hX6 c_hX7 c_hX8 c_hX9 c_hX10
    have b02 := btr b01 b2 b01.size
    have hX_2 := hX_1.below b2 hX_1.lt
    clear hX_1
    have c_hX0 := hX_2.cell 0
    have c_hX1 := hX_2.cell 1
    have c_hX2 := hX_2.cell 2
    have c_hX3 := hX_2.cell 3
    have c_hX4 := hX_2.cell 4
    have c_hX5 := hX_2.cell 5
    have c_hX6 := hX_2.cell 6
    have c_hX7 := hX_2.cell 7
    have c_hX8 := hX_2.cell 8
    have c_hX9 := hX_2.cell 9
    have c_hX10 := hX_2.cell 10
    go_wp2_with fail
    refine (HN2.out _).mono ?_
    rintro _ w3 ⟨rfl, b3⟩
    clear c_hX0 c_hX1 c_hX2 c_hX3 c_hX4 c_hX5 c_hX6 c_hX7 c_hX8 c_hX9 c_hX10
    have b03 := btr b02 b3 b02.size
    have hX_3 := hX_2.below b3 hX_2.lt
    clear hX_2
    have c_hX0 := hX_3.cell 0
    have c_hX1 := hX_3.cell 1
    have c_hX2 := hX_3.cell 2
    have c_hX3 := hX_3.cell 3
    have c_hX4 := hX_3.cell 4
    have c_hX5 := hX_3.cell 5
    have c_hX6 := hX_3.cell 6
    have c_hX7 := hX_3.cell 7
    have c_hX8 := hX_3.cell 8
    have c_hX9 := hX_3.cell 9
    have c_hX10 := hX_3.cell 10
    go_wp2_with fail
    refine (HAW.out _ (ht.call b03)).mono ?_
    rintro _ w4 ⟨rfl, b4⟩
    clear c_hX0 c_hX1 c_hX2 c_hX3 c_hX4 c_hX5 c_hX6 c_hX7 c_hX8 c_hX9 c_hX10
    have b04 := btr b03 b4 b03.size
    have hX_4 := hX_3.below b4 hX_3.lt
    clear hX_3
    have c_hX0 := hX_4.cell 0
    have c_hX1 := hX_4.cell 1
    have c_hX2 := hX_4.cell 2
    have c_hX3 := hX_4.cell 3
    have c_hX4 := hX_4.cell 4
    have c_hX5 := hX_4.cell 5
    have c_hX6 := hX_4.cell 6
    have c_hX7 := hX_4.cell 7
    have c_hX8 := hX_4.cell 8
    have c_hX9 := hX_4.cell 9
    have c_hX10 := hX_4.cell 10
    go_wp2_with fail
    go_ret
    exact ⟨rfl, b04⟩
  have hWF : WFA (⟨o, path, nx, md, pf, at_, ha, gs, ga, comms, raws⟩ : At) := ⟨⟨hwf.1, hwf.2.1⟩, ⟨hwf.2.2.1, hwf.2.2.2.1⟩, ⟨hwf.2.2.2.2.1, hwf.2.2.2.2.2⟩, hp.wfA, hcm.wfB⟩
  have hpt : putAt true (⟨o, path, nx, md, pf, at_, ha, gs, ga, comms, raws⟩ : At) = (attsB true (⟨o, path, nx, md, pf, at_, ha, gs, ga, comms, raws⟩ : At), 0) := if_pos hra
  obtain ⟨bs, hbs⟩ : ∃ x, attsB true (⟨o, path, nx, md, pf, at_, ha, gs, ga, comms, raws⟩ : At) = x := ⟨_, rfl⟩
  rw [hbs] at hpt
  have hbl : bs.length ≤ 5000 := by rw [← hbs]; exact attsB_len true hra
  have HP1 := Lib.hid (show ∀ w', DL rSeg 2 w' (Lo w') A n path → NF w' (Lo w') A1 n1 comms → DL rRaw 3 w' (Lo w') A2 n2 raws → LookTab w' → Calls Tryd.prog 58 #[.agg #[.int .i64 o, .slice A n c, .int .u32 nx, .int .i64 md, .int .i64 pf, .bool at_, .bool ha, .int .u32 gs, .int .u32 ga, .slice A1 n1 c1, .slice A2 n2 c2], .bool true] w' (RetPE w' (bs, 0)) from fun w' h1 h2 h3 h4 => by rw [← hpt]; exact attPut_wide o A n c path nx md pf at_ ha gs ga A1 n1 c1 comms A2 n2 c2 raws w' h1 h2 h3 hn12 HS (by omega) h4 (lt_of_cell (h4 0 (by omega)).1) (Lib.hid hwf))
  have hrd : readAt bs true = .ok ((⟨o, path, nx, md, pf, at_, ha, gs, ga, comms, raws⟩ : At), (grPut true (⟨o, path, nx, md, pf, at_, ha, gs, ga, comms, raws⟩ : At)).kinds) := by rw [← hbs]; exact read_wide hra hnb hWF
  obtain ⟨ks, hks⟩ : ∃ x, (grPut true (⟨o, path, nx, md, pf, at_, ha, gs, ga, comms, raws⟩ : At)).kinds = x := ⟨_, rfl⟩
  rw [hks] at hrd
  have HRD := Lib.hid (show ∀ (A' : Option Addr) (n' c' : Nat) w', LookTab w' → BS w' w'.heap.size A' n' bs → Calls Tryd.prog 60 #[.slice A' n' c', .bool true] w' (RetRA w' (.ok ((⟨o, path, nx, md, pf, at_, ha, gs, ga, comms, raws⟩ : At), ks))) from fun A' n' c' w' h1 h2 => by rw [← hrd]; exact attRead A' n' c' bs true w' h2 (by rw [h2.len]; omega) h1)
  have HSM := Lib.hid (show ∀ (Ax : Option Addr) (nx' cx : Nat) (Ay : Option Addr) (ny cy : Nat) (Az : Option Addr) (nz cz : Nat) w', DL rSeg 2 w' (Lo w') Ax nx' path → NF w' (Lo w') Ay ny comms → DL rRaw 3 w' (Lo w') Az nz raws → DL rSeg 2 w' (Lo w') A n path → NF w' (Lo w') A1 n1 comms → DL rRaw 3 w' (Lo w') A2 n2 raws → Calls Tryd.prog 54 #[.agg #[.int .i64 o, .slice Ax nx' cx, .int .u32 nx, .int .i64 md, .int .i64 pf, .bool at_, .bool ha, .int .u32 gs, .int .u32 ga, .slice Ay ny cy, .slice Az nz cz], .agg #[.int .i64 o, .slice A n c, .int .u32 nx, .int .i64 md, .int .i64 pf, .bool at_, .bool ha, .int .u32 gs, .int .u32 ga, .slice A1 n1 c1, .slice A2 n2 c2]] w' fun en w'' => en = .returned (.bool true) ∧ Below w'.heap.size w' w'' from fun Ax nx' cx Ay ny cy Az nz cz w' h1 h2 h3 h4 h5 h6 => by
    have e : sameAt (⟨o, path, nx, md, pf, at_, ha, gs, ga, comms, raws⟩ : At) (⟨o, path, nx, md, pf, at_, ha, gs, ga, comms, raws⟩ : At) = true := sameAt_iff.2 rfl
    rw [← e]
    exact refSame04 o Ax nx' cx path nx md pf at_ ha gs ga Ay ny cy comms Az nz cz raws o A n c path nx md pf at_ ha gs ga A1 n1 c1 comms A2 n2 c2 raws w' h1 h2 h3 h4 h5 h6 (by have := h1.len; have := hp.len; omega) HS (by have := h2.1; omega) (by have := h3.len; omega) (Lib.hid fun x hx => by have := hd400 x hx; omega))
  clear hks hrd hbs hpt hra hnb hr hrm hfw hc60 hr12 hd400 hfa hn12 hn1c hn2c HS hwf hWF
  obtain ⟨W, hW, hX, b0⟩ := box1c w #[.int .i64 o, .slice A n c, .int .u32 nx, .int .i64 md, .int .i64 pf, .bool at_, .bool ha, .int .u32 gs, .int .u32 ga, .slice A1 n1 c1, .slice A2 n2 c2] 54
  go_enter Tryd.func14, Tryd.ntmps14
  go_upto_region 1 with fail
  try rw [hW]
  obtain ⟨q, hq⟩ : ∃ q, w.heap.size = q := ⟨_, rfl⟩
  try rw [hq]
  rw [hq] at hX
  clear hW hq
  have c_hX0 := hX.cell 0
  have c_hX1 := hX.cell 1
  have c_hX2 := hX.cell 2
  have c_hX3 := hX.cell 3
  have c_hX4 := hX.cell 4
  have c_hX5 := hX.cell 5
  have c_hX6 := hX.cell 6
  have c_hX7 := hX.cell 7
  have c_hX8 := hX.cell 8
  have c_hX9 := hX.cell 9
  have c_hX10 := hX.cell 10
  go_wp2_with fail
  refine (HFW.out _ (hp.segB4 b0) (hrw.rawB4 b0)).mono ?_
  rintro _ w1 ⟨rfl, b1⟩
  clear c_hX0 c_hX1 c_hX2 c_hX3 c_hX4 c_hX5 c_hX6 c_hX7 c_hX8 c_hX9 c_hX10
  have b01 := btr b0 b1 b0.size
  have hX_1 := hX.below b1 hX.lt
  have c_hX0 := hX_1.cell 0
  have c_hX1 := hX_1.cell 1
  have c_hX2 := hX_1.cell 2
  have c_hX3 := hX_1.cell 3
  have c_hX4 := hX_1.cell 4
  have c_hX5 := hX_1.cell 5
  have c_hX6 := hX_1.cell 6
  have c_hX7 := hX_1.cell 7
  have c_hX8 := hX_1.cell 8
  have c_hX9 := hX_1.cell 9
  have c_hX10 := hX_1.cell 10
  go_wp2_with fail
  refine (HR2.out _ (hp.segB4 b01) (hrw.rawB4 b01)).mono ?_
  rintro _ w2 ⟨rfl, b2⟩
  clear c_hX0 c_hX1 c_hX2 c_hX3 c_hX4 c_hX5 c_hX6 c_hX7 c_hX8 c_hX9 c_hX10
  have b02 := btr b01 b2 b01.size
  have hX_2 := hX_1.below b2 hX_1.lt
  clear hX_1
  have c_hX0 := hX_2.cell 0
  have c_hX1 := hX_2.cell 1
  have c_hX2 := hX_2.cell 2
  have c_hX3 := hX_2.cell 3
  have c_hX4 := hX_2.cell 4
  have c_hX5 := hX_2.cell 5
  have c_hX6 := hX_2.cell 6
  have c_hX7 := hX_2.cell 7
  have c_hX8 := hX_2.cell 8
  have c_hX9 := hX_2.cell 9
  have c_hX10 := hX_2.cell 10
  go_wp2_with fail
  refine (HN2.out _).mono ?_
  rintro _ w3 ⟨rfl, b3⟩
  clear c_hX0 c_hX1 c_hX2 c_hX3 c_hX4 c_hX5 c_hX6 c_hX7 c_hX8 c_hX9 c_hX10
  have b03 := btr b02 b3 b02.size
  have hX_3 := hX_2.below b3 hX_2.lt
  clear hX_2
  have c_hX0 := hX_3.cell 0
  have c_hX1 := hX_3.cell 1
  have c_hX2 := hX_3.cell 2
  have c_hX3 := hX_3.cell 3
  have c_hX4 := hX_3.cell 4
  have c_hX5 := hX_3.cell 5
  have c_hX6 := hX_3.cell 6
  have c_hX7 := hX_3.cell 7
  have c_hX8 := hX_3.cell 8
  have c_hX9 := hX_3.cell 9
  have c_hX10 := hX_3.cell 10
  go_wp2_with fail
  refine (HP1.out _ (hp.segB4 b03) (hcm.numB4 b03) (hrw.rawB4 b03) (ht.call b03)).mono ?_
  rintro _ w4 ⟨A3, n3, c3, rfl, o3, b4⟩
  clear c_hX0 c_hX1 c_hX2 c_hX3 c_hX4 c_hX5 c_hX6 c_hX7 c_hX8 c_hX9 c_hX10
  have b04 := btr b03 b4 b03.size
  have hX_4 := hX_3.below b4 hX_3.lt
  clear hX_3
  have c_hX0 := hX_4.cell 0
  have c_hX1 := hX_4.cell 1
  have c_hX2 := hX_4.cell 2
  have c_hX3 := hX_4.cell 3
  have c_hX4 := hX_4.cell 4
  have c_hX5 := hX_4.cell 5
  have c_hX6 := hX_4.cell 6
  have c_hX7 := hX_4.cell 7
  have c_hX8 := hX_4.cell 8
  have c_hX9 := hX_4.cell 9
  have c_hX10 := hX_4.cell 10
  have hbs3 := o3.bs
  go_wp2_with fail
  refine (HRD.out A3 n3 c3 _ (ht.call b04) hbs3).mono ?_
  rintro _ w5 ⟨b5, A5, n5, c5, A6, n6, c6, A7, n7, c7, A8, n8, c8, rfl, d1, d2, d3, d4, hn8, d5⟩
  try simp only at d1 d2 d3
  clear c_hX0 c_hX1 c_hX2 c_hX3 c_hX4 c_hX5 c_hX6 c_hX7 c_hX8 c_hX9 c_hX10
  have b05 := btr b04 b5 b04.size
  have hX_5 := hX_4.below b5 hX_4.lt
  clear hX_4
  have c_hX0 := hX_5.cell 0
  have c_hX1 := hX_5.cell 1
  have c_hX2 := hX_5.cell 2
  have c_hX3 := hX_5.cell 3
  have c_hX4 := hX_5.cell 4
  have c_hX5 := hX_5.cell 5
  have c_hX6 := hX_5.cell 6
  have c_hX7 := hX_5.cell 7
  have c_hX8 := hX_5.cell 8
  have c_hX9 := hX_5.cell 9
  have c_hX10 := hX_5.cell 10
  go_upto_region 5 with fail
  obtain ⟨w6, hw6, hZ, hF, b6⟩ := boxes2 w5 #[.int .i64 o, .slice A5 n5 c5, .int .u32 nx, .int .i64 md, .int .i64 pf, .bool at_, .bool ha, .int .u32 gs, .int .u32 ga, .slice A6 n6 c6, .slice A7 n7 c7] #[.int .i64 0, .int .i64 0, .slice none 0 0] 54 69
  try simp only
  try rw [hw6]
  have d16 := d1.segB4 b6
  have d26 := d2.numB4 b6
  have d36 := d3.rawB4 b6
  clear hw6 d1 d2 d3 d4 hn8 d5 o3 hbs3
  clear c_hX0 c_hX1 c_hX2 c_hX3 c_hX4 c_hX5 c_hX6 c_hX7 c_hX8 c_hX9 c_hX10
  have b06 := btr b05 b6 b05.size
  have hX_6 := hX_5.below b6 hX_5.lt
  clear hX_5
  have c_hX0 := hX_6.cell 0
  have c_hX1 := hX_6.cell 1
  have c_hX2 := hX_6.cell 2
  have c_hX3 := hX_6.cell 3
  have c_hX4 := hX_6.cell 4
  have c_hX5 := hX_6.cell 5
  have c_hX6 := hX_6.cell 6
  have c_hX7 := hX_6.cell 7
  have c_hX8 := hX_6.cell 8
  have c_hX9 := hX_6.cell 9
  have c_hX10 := hX_6.cell 10
  have c_hZ0 := hZ.cell 0
  have c_hZ1 := hZ.cell 1
  have c_hZ2 := hZ.cell 2
  have c_hZ3 := hZ.cell 3
  have c_hZ4 := hZ.cell 4
  have c_hZ5 := hZ.cell 5
  have c_hZ6 := hZ.cell 6
  have c_hZ7 := hZ.cell 7
  have c_hZ8 := hZ.cell 8
  have c_hZ9 := hZ.cell 9
  have c_hZ10 := hZ.cell 10
  have c_hF0 := hF.cell 0
  go_wp2_with fail
  refine (HSM.out A5 n5 c5 A6 n6 c6 A7 n7 c7 _ d16 d26 d36 (hp.segB4 b06) (hcm.numB4 b06) (hrw.rawB4 b06)).mono ?_
  rintro _ w7 ⟨rfl, b7⟩
  clear c_hX0 c_hX1 c_hX2 c_hX3 c_hX4 c_hX5 c_hX6 c_hX7 c_hX8 c_hX9 c_hX10 c_hZ0 c_hZ1 c_hZ2 c_hZ3 c_hZ4 c_hZ5 c_hZ6 c_hZ7 c_hZ8 c_hZ9 c_hZ10 c_hF0
  have b07 := btr b06 b7 b06.size
  have hX_7 := hX_6.below b7 hX_6.lt
  clear hX_6
  have hZ_7 := hZ.below b7 hZ.lt
  have hF_7 := hF.below b7 hF.lt
  have c_hX0 := hX_7.cell 0
  have c_hX1 := hX_7.cell 1
  have c_hX2 := hX_7.cell 2
  have c_hX3 := hX_7.cell 3
  have c_hX4 := hX_7.cell 4
  have c_hX5 := hX_7.cell 5
  have c_hX6 := hX_7.cell 6
  have c_hX7 := hX_7.cell 7
  have c_hX8 := hX_7.cell 8
  have c_hX9 := hX_7.cell 9
  have c_hX10 := hX_7.cell 10
  have c_hZ0 := hZ_7.cell 0
  have c_hZ1 := hZ_7.cell 1
  have c_hZ2 := hZ_7.cell 2
  have c_hZ3 := hZ_7.cell 3
  have c_hZ4 := hZ_7.cell 4
  have c_hZ5 := hZ_7.cell 5
  have c_hZ6 := hZ_7.cell 6
  have c_hZ7 := hZ_7.cell 7
  have c_hZ8 := hZ_7.cell 8
  have c_hZ9 := hZ_7.cell 9
  have c_hZ10 := hZ_7.cell 10
  have c_hF0 := hF_7.cell 0
  go_wp2_with fail
  refine (HAW.out _ (ht.call b07)).mono ?_
  rintro _ w8 ⟨rfl, b8⟩
  clear c_hX0 c_hX1 c_hX2 c_hX3 c_hX4 c_hX5 c_hX6 c_hX7 c_hX8 c_hX9 c_hX10 c_hZ0 c_hZ1 c_hZ2 c_hZ3 c_hZ4 c_hZ5 c_hZ6 c_hZ7 c_hZ8 c_hZ9 c_hZ10 c_hF0
  have b08 := btr b07 b8 b07.size
  have hX_8 := hX_7.below b8 hX_7.lt
  clear hX_7
  have hZ_8 := hZ_7.below b8 hZ_7.lt
  clear hZ_7
  have hF_8 := hF_7.below b8 hF_7.lt
  clear hF_7
  have c_hX0 := hX_8.cell 0
  have c_hX1 := hX_8.cell 1
  have c_hX2 := hX_8.cell 2
  have c_hX3 := hX_8.cell 3
  have c_hX4 := hX_8.cell 4
  have c_hX5 := hX_8.cell 5
  have c_hX6 := hX_8.cell 6
  have c_hX7 := hX_8.cell 7
  have c_hX8 := hX_8.cell 8
  have c_hX9 := hX_8.cell 9
  have c_hX10 := hX_8.cell 10
  have c_hZ0 := hZ_8.cell 0
  have c_hZ1 := hZ_8.cell 1
  have c_hZ2 := hZ_8.cell 2
  have c_hZ3 := hZ_8.cell 3
  have c_hZ4 := hZ_8.cell 4
  have c_hZ5 := hZ_8.cell 5
  have c_hZ6 := hZ_8.cell 6
  have c_hZ7 := hZ_8.cell 7
  have c_hZ8 := hZ_8.cell 8
  have c_hZ9 := hZ_8.cell 9
  have c_hZ10 := hZ_8.cell 10
  have c_hF0 := hF_8.cell 0
  go_wp2_with fail
  go_ret
  exact ⟨rfl, b08⟩
end Go.Proofs.YtlpkngjeihoknaaDoor
