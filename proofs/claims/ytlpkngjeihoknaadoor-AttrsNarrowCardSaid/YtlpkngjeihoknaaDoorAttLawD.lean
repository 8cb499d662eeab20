/- The statement AttrsNarrow: its walk. Conditions: the table of looks. -/
import Derived.Test.YtlpkngjeihoknaaDoorProg
import Derived.WalkKit
import Derived.WalkSpells
import Derived.WalkLawsBesides
import Derived.Outline
import Derived.Deep.QuietTactic
import Derived.BigQuiet
import Derived.Handy
import Derived.Lib.Hide
import Derived.Laws.Cover4
import Derived.OrdersHeld
import Derived.Deep.RegionHeld
import Derived.Deep.DeepCutAuto
import Derived.Deep.CutBlock
import Derived.Test.YtlpkngjeihoknaaDoorAttSW
namespace Go.Proofs.YtlpkngjeihoknaaDoor
open Go.RowKit
set_option linter.unusedSimpArgs false
set_option linter.unusedVariables false
theorem bigN_take {l : List Int} {j : Nat} {y : Int} (h : l[j]? = some y) : bigN (l.take (j + 1)) = (bigN (l.take j) || decide (65535 < y)) := by
  unfold bigN
  rw [take_snoc h, List.any_append]
  simp
set_option maxHeartbeats 16000000 in
set_option maxRecDepth 100000 in
theorem lawAttrsNarrow (w : World) (o : Int) (A : Option Addr) (n : Nat) (c : Nat) (path : List Seg) (nx : Int) (md : Int) (pf : Int) (at_ : Bool) (ha : Bool) (gs : Int) (ga : Int) (A1 : Option Addr) (n1 : Nat) (c1 : Nat) (comms : List Int) (A2 : Option Addr) (n2 : Nat) (c2 : Nat) (raws : List RawV) (hp : DL rSeg 2 w (Lo w) A n path) (hcm : NF w (Lo w) A1 n1 comms) (hrw : DL rRaw 3 w (Lo w) A2 n2 raws) (hwf : 0 ≤ nx ∧ nx < 4294967296 ∧ 0 ≤ gs ∧ gs < 4294967296 ∧ 0 ≤ ga ∧ ga < 4294967296) (hrm : ∀ x ∈ path, x.2.length ≤ big32) (ht : LookTab w) :
    Calls Tryd.prog 15 #[.agg #[.int .i64 o, .slice A n c, .int .u32 nx, .int .i64 md, .int .i64 pf, .bool at_, .bool ha, .int .u32 gs, .int .u32 ga, .slice A1 n1 c1, .slice A2 n2 c2]] w fun en w' => en = .returned (.bool true) ∧ Below w.heap.size w w' := by
  obtain ⟨r, hr⟩ : ∃ r, fewAt path comms raws = r := ⟨_, rfl⟩
  have HFW := Lib.hid (show ∀ w', DL rSeg 2 w' (Lo w') A n path → DL rRaw 3 w' (Lo w') A2 n2 raws → Calls Tryd.prog 46 #[.agg #[.int .i64 o, .slice A n c, .int .u32 nx, .int .i64 md, .int .i64 pf, .bool at_, .bool ha, .int .u32 gs, .int .u32 ga, .slice A1 n1 c1, .slice A2 n2 c2]] w' fun en w'' => en = .returned (.bool r) ∧ Below w'.heap.size w' w'' from fun w' h1 h2 => by rw [← hr]; exact law04Few o A n c path nx md pf at_ ha gs ga A1 n1 c1 comms A2 n2 c2 raws w' h1 hcm.1 h2)
  have HAW := Lib.hid (show ∀ w', LookTab w' → Calls Tryd.prog 47 #[] w' fun en w'' => en = .returned (.bool true) ∧ Below w'.heap.size w' w'' from fun w' h => awake04 w' h (lt_of_cell (h 0 (by omega)).1))
  cases r
  case false =>
    clear hr hrm
    obtain ⟨W, hW, hX, b0⟩ := box1c w #[.int .i64 o, .slice A n c, .int .u32 nx, .int .i64 md, .int .i64 pf, .bool at_, .bool ha, .int .u32 gs, .int .u32 ga, .slice A1 n1 c1, .slice A2 n2 c2] 54
    go_enter Tryd.func15, Tryd.ntmps15
    go_upto_region 1 with fail
    try rw [hW]
    obtain ⟨q, hq⟩ : ∃ q, w.heap.size = q := ⟨_, rfl⟩
    try rw [hq]
    rw [hq] at hX
    clear hW hq
    have c_hX0 := hX.cell 0
    have c_hX1 := hX.cell 1
    have c_hX2 := hX.cell 2
    have c_hX3 := hX.cell 3
    have c_hX4 := hX.cell 4
    have c_hX5 := hX.cell 5
    have c_hX6 := hX.cell 6
    have c_hX7 := hX.cell 7
    have c_hX8 := hX.cell 8
    have c_hX9 := hX.cell 9
    have c_hX10 := hX.cell 10
    go_wp2_with fail
    refine (HFW.out _ (hp.segB4 b0) (hrw.rawB4 b0)).mono ?_
    rintro _ w1 ⟨rfl, b1⟩
    clear c_hX0 c_hX1 c_hX2 c_hX3 c_hX4 c_hX5 c_hX6 c_hX7 c_hX8 c_hX9 c_hX10
    have b01 := btr b0 b1 b0.size
    have hX_1 := hX.below b1 hX.lt
    have c_hX0 := hX_1.cell 0
    have c_hX1 := hX_1.cell 1
    have c_hX2 := hX_1.cell 2
    have c_hX3 := hX_1.cell 3
    have c_hX4 := hX_1.cell 4
    have c_hX5 := hX_1.cell 5
    have c_hX6 := hX_1.cell 6
    have c_hX7 := hX_1.cell 7
    have c_hX8 := hX_1.cell 8
    have c_hX9 := hX_1.cell 9
    have c_hX10 := hX_1.cell 10
    go_wp2_with fail
    refine (HAW.out _ (ht.call b01)).mono ?_
    rintro _ w2 ⟨rfl, b2⟩
    clear c_hX0 c_hX1 c_hX2 c_hX3 c_hX4 c_hX5 c_hX6 c_hX7 c_hX8 c_hX9 c_hX10
    have b02 := btr b01 b2 b01.size
    have hX_2 := hX_1.below b2 hX_1.lt
    clear hX_1
    have c_hX0 := hX_2.cell 0
    have c_hX1 := hX_2.cell 1
    have c_hX2 := hX_2.cell 2
    have c_hX3 := hX_2.cell 3
    have c_hX4 := hX_2.cell 4
    have c_hX5 := hX_2.cell 5
    have c_hX6 := hX_2.cell 6
    have c_hX7 := hX_2.cell 7
    have c_hX8 := hX_2.cell 8
    have c_hX9 := hX_2.cell 9
    have c_hX10 := hX_2.cell 10
    go_wp2_with fail
    go_ret
    exact ⟨rfl, b02⟩
  obtain ⟨hfw, hc60, hr12, hd400⟩ := fewAt_of hr
  have hfa := fewA_of hfw hrm
  have hn12 : n ≤ 12 := by have := hp.len; omega
  have HS := Lib.hid hfa.2
  have hn1c : n1 ≤ 60 := by have := hcm.1; omega
  have hn2c : n2 ≤ 12 := by have := hrw.len; omega
  obtain ⟨ra, hra⟩ : ∃ x, rightAt (⟨o, path, nx, md, pf, at_, ha, gs, ga, comms, raws⟩ : At) = x := ⟨_, rfl⟩
  have HR2 := Lib.hid (show ∀ w', DL rSeg 2 w' (Lo w') A n path → DL rRaw 3 w' (Lo w') A2 n2 raws → Calls Tryd.prog 49 #[.agg #[.int .i64 o, .slice A n c, .int .u32 nx, .int .i64 md, .int .i64 pf, .bool at_, .bool ha, .int .u32 gs, .int .u32 ga, .slice A1 n1 c1, .slice A2 n2 c2]] w' fun en w'' => en = .returned (.bool ra) ∧ Below w'.heap.size w' w'' from fun w' h1 h2 => by rw [← hra]; exact refRight04 o A n c path nx md pf at_ ha gs ga A1 n1 c1 comms A2 n2 c2 raws w' h1 hcm.1 h2 (by omega) (by omega))
  obtain ⟨nb, hnb⟩ : ∃ x, nextA nx = x := ⟨_, rfl⟩
  have HN2 := Lib.hid (show ∀ w', Calls Tryd.prog 53 #[.int .u32 nx] w' fun en w'' => en = .returned (.bool nb) ∧ Below w'.heap.size w' w'' from fun w' => by rw [← hnb]; exact (refNext04 nx w' hwf.1 hwf.2.1).mono fun e w'' hx => ⟨hx.1, by rw [← hx.2]; exact Below.refl _ _⟩)
  cases ra
  case false =>
    clear hra hnb hr hrm hfw hc60 hr12 hd400 hfa hn12 hn1c hn2c HS hwf
    obtain ⟨W, hW, hX, b0⟩ := box1c w #[.int .i64 o, .slice A n c, .int .u32 nx, .int .i64 md, .int .i64 pf, .bool at_, .bool ha, .int .u32 gs, .int .u32 ga, .slice A1 n1 c1, .slice A2 n2 c2] 54
    go_enter Tryd.func15, Tryd.ntmps15
    go_upto_region 1 with fail
    try rw [hW]
    obtain ⟨q, hq⟩ : ∃ q, w.heap.size = q := ⟨_, rfl⟩
    try rw [hq]
    rw [hq] at hX
    clear hW hq
    have c_hX0 := hX.cell 0
    have c_hX1 := hX.cell 1
    have c_hX2 := hX.cell 2
    have c_hX3 := hX.cell 3
    have c_hX4 := hX.cell 4
    have c_hX5 := hX.cell 5
    have c_hX6 := hX.cell 6
    have c_hX7 := hX.cell 7
    have c_hX8 := hX.cell 8
    have c_hX9 := hX.cell 9
    have c_hX10 := hX.cell 10
    go_wp2_with fail
    refine (HFW.out _ (hp.segB4 b0) (hrw.rawB4 b0)).mono ?_
    rintro _ w1 ⟨rfl, b1⟩
    clear c_hX0 c_hX1 c_hX2 c_hX3 c_hX4 c_hX5 c_hX6 c_hX7 c_hX8 c_hX9 c_hX10
    have b01 := btr b0 b1 b0.size
    have hX_1 := hX.below b1 hX.lt
    have c_hX0 := hX_1.cell 0
    have c_hX1 := hX_1.cell 1
    have c_hX2 := hX_1.cell 2
    have c_hX3 := hX_1.cell 3
    have c_hX4 := hX_1.cell 4
    have c_hX5 := hX_1.cell 5
    have c_hX6 := hX_1.cell 6
    have c_hX7 := hX_1.cell 7
    have c_hX8 := hX_1.cell 8
    have c_hX9 := hX_1.cell 9
    have c_hX10 := hX_1.cell 10
    go_wp2_with fail
    refine (HR2.out _ (hp.segB4 b01) (hrw.rawB4 b01)).mono ?_
    rintro _ w2 ⟨rfl, b2⟩
    clear c_hX0 c_hX1 c_hX2 c_hX3 c_hX4 c_hX5 c_hX6 c_hX7 c_hX8 c_hX9 c_hX10
    have b02 := btr b01 b2 b01.size
    have hX_2 := hX_1.below b2 hX_1.lt
    clear hX_1
    have c_hX0 := hX_2.cell 0
    have c_hX1 := hX_2.cell 1
    have c_hX2 := hX_2.cell 2
    have c_hX3 := hX_2.cell 3
    have c_hX4 := hX_2.cell 4
    have c_hX5 := hX_2.cell 5
    have c_hX6 := hX_2.cell 6
    have c_hX7 := hX_2.cell 7
    have c_hX8 := hX_2.cell 8
    have c_hX9 := hX_2.cell 9
    have c_hX10 := hX_2.cell 10
    go_wp2_with fail
    refine (HAW.out _ (ht.call b02)).mono ?_
    rintro _ w3 ⟨rfl, b3⟩
    clear c_hX0 c_hX1 c_hX2 c_hX3 c_hX4 c_hX5 c_hX6 c_hX7 c_hX8 c_hX9 c_hX10
    have b03 := btr b02 b3 b02.size
    have hX_3 := hX_2.below b3 hX_2.lt
    clear hX_2
    have c_hX0 := hX_3.cell 0
    have c_hX1 := hX_3.cell 1
    have c_hX2 := hX_3.cell 2
    have c_hX3 := hX_3.cell 3
    have c_hX4 := hX_3.cell 4
    have c_hX5 := hX_3.cell 5
    have c_hX6 := hX_3.cell 6
    have c_hX7 := hX_3.cell 7
    have c_hX8 := hX_3.cell 8
    have c_hX9 := hX_3.cell 9
    have c_hX10 := hX_3.cell 10
    go_wp2_with fail
    go_ret
    exact ⟨rfl, b03⟩
  cases nb
  case false =>
    clear hra hnb hr hrm hfw hc60 hr12 hd400 hfa hn12 hn1c hn2c HS hwf
    obtain ⟨W, hW, hX, b0⟩ := box1c w #[.int .i64 o, .slice A n c, .int .u32 nx, .int .i64 md, .int .i64 pf, .bool at_, .bool ha, .int .u32 gs, .int .u32 ga, .slice A1 n1 c1, .slice A2 n2 c2] 54
    go_enter Tryd.func15, Tryd.ntmps15
    go_upto_region 1 with fail
    try rw [hW]
    obtain ⟨q, hq⟩ : ∃ q, w.heap.size = q := ⟨_, rfl⟩
    try rw [hq]
    rw [hq] at hX
    clear hW hq
    have c_hX0 := hX.cell 0
    have c_hX1 := hX.cell 1
    have c_hX2 := hX.cell 2
    have c_hX3 := hX.cell 3
    have c_hX4 := hX.cell 4
    have c_hX5 := hX.cell 5
    have c_hX6 := hX.cell 6
    have c_hX7 := hX.cell 7
    have c_hX8 := hX.cell 8
    have c_hX9 := hX.cell 9
    have c_hX10 := hX.cell 10
    go_wp2_with fail
    refine (HFW.out _ (hp.segB4 b0) (hrw.rawB4 b0)).mono ?_
    rintro _ w1 ⟨rfl, b1⟩
    clear c_hX0 c_hX1 c_hX2 c_hX3 c_hX4 c_hX5 c_hX6 c_hX7 c_hX8 c_hX9 c_hX10
    have b01 := btr b0 b1 b0.size
    have hX_1 := hX.below b1 hX.lt
    have c_hX0 := hX_1.cell 0
    have c_hX1 := hX_1.cell 1
    have c_hX2 := hX_1.cell 2
    have c_hX3 := hX_1.cell 3
    have c_hX4 := hX_1.cell 4
    have c_hX5 := hX_1.cell 5
    have c_hX6 := hX_1.cell 6
    have c_hX7 := hX_1.cell 7
    have c_hX8 := hX_1.cell 8
    have c_hX9 := hX_1.cell 9
    have c_hX10 := hX_1.cell 10
    go_wp2_with fail
    refine (HR2.out _ (hp.segB4 b01) (hrw.rawB4 b01)).mono ?_
    rintro _ w2 ⟨rfl, b2⟩
    clear c_hX0 c_hX1 c_hX2 c_hX3 c_hX4 c_hX5 c_hX6 c_hX7 c_hX8 c_hX9 c_hX10
    have b02 := btr b01 b2 b01.size
    have hX_2 := hX_1.below b2 hX_1.lt
    clear hX_1
    have c_hX0 := hX_2.cell 0
    have c_hX1 := hX_2.cell 1
    have c_hX2 := hX_2.cell 2
    have c_hX3 := hX_2.cell 3
    have c_hX4 := hX_2.cell 4
    have c_hX5 := hX_2.cell 5
    have c_hX6 := hX_2.cell 6
    have c_hX7 := hX_2.cell 7
    have c_hX8 := hX_2.cell 8
    have c_hX9 := hX_2.cell 9
    have c_hX10 := hX_2.cell 10
    go_wp2_with fail
    refine (HN2.out _).mono ?_
    rintro _ w3 ⟨rfl, b3⟩
    clear c_hX0 c_hX1 c_hX2 c_hX3 c_hX4 c_hX5 c_hX6 c_hX7 c_hX8 c_hX9 c_hX10
    have b03 := btr b02 b3 b02.size
    have hX_3 := hX_2.below b3 hX_2.lt
    clear hX_2
    have c_hX0 := hX_3.cell 0
    have c_hX1 := hX_3.cell 1
    have c_hX2 := hX_3.cell 2
    have c_hX3 := hX_3.cell 3
    have c_hX4 := hX_3.cell 4
    have c_hX5 := hX_3.cell 5
    have c_hX6 := hX_3.cell 6
    have c_hX7 := hX_3.cell 7
    have c_hX8 := hX_3.cell 8
    have c_hX9 := hX_3.cell 9
    have c_hX10 := hX_3.cell 10
    go_wp2_with fail
    refine (HAW.out _ (ht.call b03)).mono ?_
    rintro _ w4 ⟨rfl, b4⟩
    clear c_hX0 c_hX1 c_hX2 c_hX3 c_hX4 c_hX5 c_hX6 c_hX7 c_hX8 c_hX9 c_hX10
    have b04 := btr b03 b4 b03.size
    have hX_4 := hX_3.below b4 hX_3.lt
    clear hX_3
    have c_hX0 := hX_4.cell 0
    have c_hX1 := hX_4.cell 1
    have c_hX2 := hX_4.cell 2
    have c_hX3 := hX_4.cell 3
    have c_hX4 := hX_4.cell 4
    have c_hX5 := hX_4.cell 5
    have c_hX6 := hX_4.cell 6
    have c_hX7 := hX_4.cell 7
    have c_hX8 := hX_4.cell 8
    have c_hX9 := hX_4.cell 9
    have c_hX10 := hX_4.cell 10
    go_wp2_with fail
    go_ret
    exact ⟨rfl, b04⟩
  have hWF : WFA (⟨o, path, nx, md, pf, at_, ha, gs, ga, comms, raws⟩ : At) := ⟨⟨hwf.1, hwf.2.1⟩, ⟨hwf.2.2.1, hwf.2.2.2.1⟩, ⟨hwf.2.2.2.2.1, hwf.2.2.2.2.2⟩, hp.wfA, hcm.wfB⟩
  have hpt : putAt false (⟨o, path, nx, md, pf, at_, ha, gs, ga, comms, raws⟩ : At) = (attsB false (⟨o, path, nx, md, pf, at_, ha, gs, ga, comms, raws⟩ : At), 0) := if_pos hra
  obtain ⟨bs, hbs⟩ : ∃ x, attsB false (⟨o, path, nx, md, pf, at_, ha, gs, ga, comms, raws⟩ : At) = x := ⟨_, rfl⟩
  rw [hbs] at hpt
  have hbl : bs.length ≤ 5000 := by rw [← hbs]; exact attsB_len false hra
  have HP1 := Lib.hid (show ∀ w', DL rSeg 2 w' (Lo w') A n path → NF w' (Lo w') A1 n1 comms → DL rRaw 3 w' (Lo w') A2 n2 raws → LookTab w' → Calls Tryd.prog 58 #[.agg #[.int .i64 o, .slice A n c, .int .u32 nx, .int .i64 md, .int .i64 pf, .bool at_, .bool ha, .int .u32 gs, .int .u32 ga, .slice A1 n1 c1, .slice A2 n2 c2], .bool false] w' (RetPE w' (bs, 0)) from fun w' h1 h2 h3 h4 => by rw [← hpt]; exact attPut_narrow o A n c path nx md pf at_ ha gs ga A1 n1 c1 comms A2 n2 c2 raws w' h1 h2 h3 hn12 HS (by omega) h4 (lt_of_cell (h4 0 (by omega)).1) (Lib.hid hwf))
  obtain ⟨⟨xo, xpath, xnx, xmd, xpf, xat, xha, xgs, xga, xcomms, xraws⟩, ks, hrd, hcnt, hxr, ⟨hxc, hxw⟩, hC1, hC2⟩ := read_narrow hra hnb hWF
  rw [hbs] at hrd
  simp only at hcnt hxr hxc hxw hC1 hC2
  subst hxc hxw
  obtain ⟨ct, hct⟩ : ∃ x : Int, (countA path : Int) = x := ⟨_, rfl⟩
  have hpr : sumN path ≤ 64 ∧ path.length ≤ 8 := (rightA_of (rightAt_of hra).2.1).2
  have hxp := (rightA_of hxr).2
  have HRD := Lib.hid (show ∀ (A' : Option Addr) (n' c' : Nat) w', LookTab w' → BS w' w'.heap.size A' n' bs → Calls Tryd.prog 60 #[.slice A' n' c', .bool false] w' (RetRA w' (.ok ((⟨xo, xpath, xnx, xmd, xpf, xat, xha, xgs, xga, xcomms, xraws⟩ : At), ks))) from fun A' n' c' w' h1 h2 => by rw [← hrd]; exact attRead A' n' c' bs false w' h2 (by rw [h2.len]; omega) h1)
  have HCA := Lib.hid (show ∀ w', DL rSeg 2 w' (Lo w') A n path → Calls Tryd.prog 29 #[.slice A n c] w' fun en w'' => en = .returned (.int .i64 ct) ∧ Below w'.heap.size w' w'' from fun w' h => by rw [← hct]; exact refCount03 A n c path w' h (by omega) HS)
  have HCX := Lib.hid (show ∀ (Ax : Option Addr) (nx' cx : Nat) w', DL rSeg 2 w' (Lo w') Ax nx' xpath → Calls Tryd.prog 29 #[.slice Ax nx' cx] w' fun en w'' => en = .returned (.int .i64 ct) ∧ Below w'.heap.size w' w'' from fun Ax nx' cx w' h => by rw [← hct, ← hcnt]; exact refCount03 Ax nx' cx xpath w' h (by have := h.len; omega) (Lib.hid (by unfold big32; omega)))
  obtain ⟨F, hF0⟩ : ∃ F, flatA path = F := ⟨_, rfl⟩
  have HFA := Lib.hid (show ∀ w', DL rSeg 2 w' (Lo w') A n path → Calls Tryd.prog 35 #[.slice A n c] w' (RetOU w' F) from fun w' h => by rw [← hF0]; exact refFlat03 A n c path w' h (by omega) HS)
  have hFl : F.length ≤ 64 := by rw [← hF0, flatA_len]; omega
  have HSM := Lib.hid (show ∀ (Ax : Option Addr) (nx' cx : Nat) (Ay : Option Addr) (ny cy : Nat) (Az : Option Addr) (nz cz : Nat) w', (⟨xo, xpath, xnx, xmd, xpf, xat, xha, xgs, xga, xcomms, xraws⟩ : At) = ⟨o, path, nx, md, pf, at_, ha, gs, ga, xcomms, xraws⟩ → DL rSeg 2 w' (Lo w') Ax nx' xpath → NF w' (Lo w') Ay ny xcomms → DL rRaw 3 w' (Lo w') Az nz xraws → DL rSeg 2 w' (Lo w') A n path → NF w' (Lo w') A1 n1 xcomms → DL rRaw 3 w' (Lo w') A2 n2 xraws → Calls Tryd.prog 54 #[.agg #[.int .i64 xo, .slice Ax nx' cx, .int .u32 xnx, .int .i64 xmd, .int .i64 xpf, .bool xat, .bool xha, .int .u32 xgs, .int .u32 xga, .slice Ay ny cy, .slice Az nz cz], .agg #[.int .i64 o, .slice A n c, .int .u32 nx, .int .i64 md, .int .i64 pf, .bool at_, .bool ha, .int .u32 gs, .int .u32 ga, .slice A1 n1 c1, .slice A2 n2 c2]] w' fun en w'' => en = .returned (.bool true) ∧ Below w'.heap.size w' w'' from fun Ax nx' cx Ay ny cy Az nz cz w' hxa h1 h2 h3 h4 h5 h6 => by
    have e : sameAt (⟨xo, xpath, xnx, xmd, xpf, xat, xha, xgs, xga, xcomms, xraws⟩ : At) ⟨o, path, nx, md, pf, at_, ha, gs, ga, xcomms, xraws⟩ = true := sameAt_iff.2 hxa
    rw [← e]
    exact refSame04 xo Ax nx' cx xpath xnx xmd xpf xat xha xgs xga Ay ny cy xcomms Az nz cz xraws o A n c path nx md pf at_ ha gs ga A1 n1 c1 xcomms A2 n2 c2 xraws w' h1 h2 h3 h4 h5 h6 (by have := h1.len; omega) (Lib.hid (by unfold big32; omega)) (by have := h2.1; have := hcm.1; omega) (by have := h3.len; have := hrw.len; omega) (Lib.hid fun x hx => by have := hd400 x hx; omega))
  rw [hF0] at hC1 hC2
  have HC1 := Lib.hid hC1
  have HC2 := Lib.hid hC2
  have HFL := Lib.hid hFl
  have e1 : (ct != ct) = false := by simp
  clear hrd hcnt hxr hC1 hC2 hct hpr hxp hF0 hFl hbs hpt hra hnb hr hrm hfw hc60 hr12 hd400 hfa hn12 hn1c hn2c HS hwf hWF
  obtain ⟨W, hW, hX, b0⟩ := box1c w #[.int .i64 o, .slice A n c, .int .u32 nx, .int .i64 md, .int .i64 pf, .bool at_, .bool ha, .int .u32 gs, .int .u32 ga, .slice A1 n1 c1, .slice A2 n2 c2] 54
  go_enter Tryd.func15, Tryd.ntmps15
  go_upto_region 1 with fail
  try rw [hW]
  obtain ⟨q, hq⟩ : ∃ q, w.heap.size = q := ⟨_, rfl⟩
  try rw [hq]
  rw [hq] at hX
  clear hW hq
  have c_hX0 := hX.cell 0
  have c_hX1 := hX.cell 1
  have c_hX2 := hX.cell 2
  have c_hX3 := hX.cell 3
  have c_hX4 := hX.cell 4
  have c_hX5 := hX.cell 5
  have c_hX6 := hX.cell 6
  have c_hX7 := hX.cell 7
  have c_hX8 := hX.cell 8
  have c_hX9 := hX.cell 9
  have c_hX10 := hX.cell 10
  go_wp2_with fail
  refine (HFW.out _ (hp.segB4 b0) (hrw.rawB4 b0)).mono ?_
  rintro _ w1 ⟨rfl, b1⟩
  clear c_hX0 c_hX1 c_hX2 c_hX3 c_hX4 c_hX5 c_hX6 c_hX7 c_hX8 c_hX9 c_hX10
  have b01 := btr b0 b1 b0.size
  have hX_1 := hX.below b1 hX.lt
  have c_hX0 := hX_1.cell 0
  have c_hX1 := hX_1.cell 1
  have c_hX2 := hX_1.cell 2
  have c_hX3 := hX_1.cell 3
  have c_hX4 := hX_1.cell 4
  have c_hX5 := hX_1.cell 5
  have c_hX6 := hX_1.cell 6
  have c_hX7 := hX_1.cell 7
  have c_hX8 := hX_1.cell 8
  have c_hX9 := hX_1.cell 9
  have c_hX10 := hX_1.cell 10
  go_wp2_with fail
  refine (HR2.out _ (hp.segB4 b01) (hrw.rawB4 b01)).mono ?_
  rintro _ w2 ⟨rfl, b2⟩
  clear c_hX0 c_hX1 c_hX2 c_hX3 c_hX4 c_hX5 c_hX6 c_hX7 c_hX8 c_hX9 c_hX10
  have b02 := btr b01 b2 b01.size
  have hX_2 := hX_1.below b2 hX_1.lt
  clear hX_1
  have c_hX0 := hX_2.cell 0
  have c_hX1 := hX_2.cell 1
  have c_hX2 := hX_2.cell 2
  have c_hX3 := hX_2.cell 3
  have c_hX4 := hX_2.cell 4
  have c_hX5 := hX_2.cell 5
  have c_hX6 := hX_2.cell 6
  have c_hX7 := hX_2.cell 7
  have c_hX8 := hX_2.cell 8
  have c_hX9 := hX_2.cell 9
  have c_hX10 := hX_2.cell 10
  go_wp2_with fail
  refine (HN2.out _).mono ?_
  rintro _ w3 ⟨rfl, b3⟩
  clear c_hX0 c_hX1 c_hX2 c_hX3 c_hX4 c_hX5 c_hX6 c_hX7 c_hX8 c_hX9 c_hX10
  have b03 := btr b02 b3 b02.size
  have hX_3 := hX_2.below b3 hX_2.lt
  clear hX_2
  have c_hX0 := hX_3.cell 0
  have c_hX1 := hX_3.cell 1
  have c_hX2 := hX_3.cell 2
  have c_hX3 := hX_3.cell 3
  have c_hX4 := hX_3.cell 4
  have c_hX5 := hX_3.cell 5
  have c_hX6 := hX_3.cell 6
  have c_hX7 := hX_3.cell 7
  have c_hX8 := hX_3.cell 8
  have c_hX9 := hX_3.cell 9
  have c_hX10 := hX_3.cell 10
  go_wp2_with fail
  refine (HP1.out _ (hp.segB4 b03) (hcm.numB4 b03) (hrw.rawB4 b03) (ht.call b03)).mono ?_
  rintro _ w4 ⟨A3, n3, c3, rfl, o3, b4⟩
  clear c_hX0 c_hX1 c_hX2 c_hX3 c_hX4 c_hX5 c_hX6 c_hX7 c_hX8 c_hX9 c_hX10
  have b04 := btr b03 b4 b03.size
  have hX_4 := hX_3.below b4 hX_3.lt
  clear hX_3
  have c_hX0 := hX_4.cell 0
  have c_hX1 := hX_4.cell 1
  have c_hX2 := hX_4.cell 2
  have c_hX3 := hX_4.cell 3
  have c_hX4 := hX_4.cell 4
  have c_hX5 := hX_4.cell 5
  have c_hX6 := hX_4.cell 6
  have c_hX7 := hX_4.cell 7
  have c_hX8 := hX_4.cell 8
  have c_hX9 := hX_4.cell 9
  have c_hX10 := hX_4.cell 10
  have hbs3 := o3.bs
  go_wp2_with fail
  refine (HRD.out A3 n3 c3 _ (ht.call b04) hbs3).mono ?_
  rintro _ w5 ⟨b5, A5, n5, c5, A6, n6, c6, A7, n7, c7, A8, n8, c8, rfl, d1, d2, d3, d4, hn8, d5⟩
  try simp only at d1 d2 d3
  clear c_hX0 c_hX1 c_hX2 c_hX3 c_hX4 c_hX5 c_hX6 c_hX7 c_hX8 c_hX9 c_hX10
  have b05 := btr b04 b5 b04.size
  have hX_5 := hX_4.below b5 hX_4.lt
  clear hX_4
  have c_hX0 := hX_5.cell 0
  have c_hX1 := hX_5.cell 1
  have c_hX2 := hX_5.cell 2
  have c_hX3 := hX_5.cell 3
  have c_hX4 := hX_5.cell 4
  have c_hX5 := hX_5.cell 5
  have c_hX6 := hX_5.cell 6
  have c_hX7 := hX_5.cell 7
  have c_hX8 := hX_5.cell 8
  have c_hX9 := hX_5.cell 9
  have c_hX10 := hX_5.cell 10
  go_upto_region 5 with fail
  obtain ⟨w6, hw6, hZ, hF, b6⟩ := boxes2 w5 #[.int .i64 xo, .slice A5 n5 c5, .int .u32 xnx, .int .i64 xmd, .int .i64 xpf, .bool xat, .bool xha, .int .u32 xgs, .int .u32 xga, .slice A6 n6 c6, .slice A7 n7 c7] #[.int .i64 0, .int .i64 0, .slice none 0 0] 54 69
  try simp only
  try rw [hw6]
  have d16 := d1.segB4 b6
  have d26 := d2.numB4 b6
  have d36 := d3.rawB4 b6
  clear hw6 d1 d2 d3 d4 hn8 d5 o3 hbs3
  clear c_hX0 c_hX1 c_hX2 c_hX3 c_hX4 c_hX5 c_hX6 c_hX7 c_hX8 c_hX9 c_hX10
  have b06 := btr b05 b6 b05.size
  have hX_6 := hX_5.below b6 hX_5.lt
  clear hX_5
  have c_hX0 := hX_6.cell 0
  have c_hX1 := hX_6.cell 1
  have c_hX2 := hX_6.cell 2
  have c_hX3 := hX_6.cell 3
  have c_hX4 := hX_6.cell 4
  have c_hX5 := hX_6.cell 5
  have c_hX6 := hX_6.cell 6
  have c_hX7 := hX_6.cell 7
  have c_hX8 := hX_6.cell 8
  have c_hX9 := hX_6.cell 9
  have c_hX10 := hX_6.cell 10
  obtain ⟨qz, hqz⟩ : ∃ q, w5.heap.size = q := ⟨_, rfl⟩
  obtain ⟨qf, hqf⟩ : ∃ x, qz + 1 = x := ⟨_, rfl⟩
  rw [hqz] at hZ hF
  rw [hqf] at hF
  try rw [hqz]
  try rw [hqf]
  clear hqz hqf
  have c_hZ0 := hZ.cell 0
  have c_hZ1 := hZ.cell 1
  have c_hZ2 := hZ.cell 2
  have c_hZ3 := hZ.cell 3
  have c_hZ4 := hZ.cell 4
  have c_hZ5 := hZ.cell 5
  have c_hZ6 := hZ.cell 6
  have c_hZ7 := hZ.cell 7
  have c_hZ8 := hZ.cell 8
  have c_hZ9 := hZ.cell 9
  have c_hZ10 := hZ.cell 10
  have c_hF0 := hF.cell 0
  have HD := Lib.hid (And.intro d16 (And.intro d26 d36))
  clear d16 d26 d36
  go_upto_region 5 with fail
  have lt_hX := hX_6.lt
  have lt_hZ := hZ.lt
  have lt_hF := hF.lt
  refine wp_region_held_drew (S := (fun w' => Below w6.heap.size w6 w' ∧ ∀ b o, b < w6.heap.size → w'.cell? ⟨b, o, none⟩ = w6.cell? ⟨b, o, none⟩)) (by kernel_rfl) ?_ (fun hHeld => ?_)
  · (first | exact heldB_keep b8 hHeld | exact heldB_keep b7 hHeld | exact hHeld | exact heldB_refl _)
  refine wpAnyH_take (i := 0) (v := ?q1v0) rfl (by kernel_rfl) (by kernel_rfl) (by kernel_rfl) (by intro _ _ _ h; exact h) (Or.inl ⟨by rfl, ?q1hy0⟩) (by assumption) ?q1rest0
  case q1hy0 => (intro w hSw; (try dsimp only at hSw); go_simp; try with_reducible rfl)
  try simp only [Act.put, List.getElem_toArray, List.getElem_cons_succ, List.getElem_cons_zero, List.setIfInBounds_toArray, List.set_cons_zero, List.set_cons_succ]
  refine wpAnyH_take (i := 1) (v := ?q1v1) rfl (by kernel_rfl) (by kernel_rfl) (by kernel_rfl) (by intro _ _ _ h; exact h) (Or.inl ⟨by rfl, ?q1hy1⟩) (by assumption) ?q1rest1
  case q1hy1 => (intro w hSw; (try dsimp only at hSw); go_simp; try with_reducible rfl)
  try simp only [Act.put, List.getElem_toArray, List.getElem_cons_succ, List.getElem_cons_zero, List.setIfInBounds_toArray, List.set_cons_zero, List.set_cons_succ]
  refine wpAnyH_take (i := 2) (v := ?q1v2) rfl (by kernel_rfl) (by kernel_rfl) (by kernel_rfl) (by intro _ _ _ h; exact h) (Or.inl ⟨by rfl, ?q1hy2⟩) (by assumption) ?q1rest2
  case q1hy2 => (intro w hSw; (try dsimp only at hSw); go_simp; try with_reducible rfl)
  try simp only [Act.put, List.getElem_toArray, List.getElem_cons_succ, List.getElem_cons_zero, List.setIfInBounds_toArray, List.set_cons_zero, List.set_cons_succ]
  refine wpAnyH_take (i := 3) (v := ?q1v3) rfl (by kernel_rfl) (by kernel_rfl) (by kernel_rfl) (by intro _ _ _ h; exact h) (Or.inl ⟨by rfl, ?q1hy3⟩) (by assumption) ?q1rest3
  case q1hy3 => (intro w hSw; (try dsimp only at hSw); go_simp; try with_reducible rfl)
  try simp only [Act.put, List.getElem_toArray, List.getElem_cons_succ, List.getElem_cons_zero, List.setIfInBounds_toArray, List.set_cons_zero, List.set_cons_succ]
  refine wpAnyH_take (i := 4) (v := ?q1v4) rfl (by kernel_rfl) (by kernel_rfl) (by kernel_rfl) (by intro _ _ _ h; exact h) (Or.inl ⟨by rfl, ?q1hy4⟩) (by assumption) ?q1rest4
  case q1hy4 => (intro w hSw; (try dsimp only at hSw); go_simp; try with_reducible rfl)
  try simp only [Act.put, List.getElem_toArray, List.getElem_cons_succ, List.getElem_cons_zero, List.setIfInBounds_toArray, List.set_cons_zero, List.set_cons_succ]
  refine wpAnyH_take (i := 5) (v := ?q1v5) rfl (by kernel_rfl) (by kernel_rfl) (by kernel_rfl) (by intro _ _ _ h; exact h) (Or.inl ⟨by rfl, ?q1hy5⟩) (by assumption) ?q1rest5
  case q1hy5 => (intro w hSw; (try dsimp only at hSw); go_simp; try with_reducible rfl)
  try simp only [Act.put, List.getElem_toArray, List.getElem_cons_succ, List.getElem_cons_zero, List.setIfInBounds_toArray, List.set_cons_zero, List.set_cons_succ]
  refine wpAnyH_take (i := 6) (v := ?q1v6) rfl (by kernel_rfl) (by kernel_rfl) (by kernel_rfl) (by intro _ _ _ h; exact h) (Or.inl ⟨by rfl, ?q1hy6⟩) (by assumption) ?q1rest6
  case q1hy6 => (intro w hSw; (try dsimp only at hSw); go_simp; try with_reducible rfl)
  try simp only [Act.put, List.getElem_toArray, List.getElem_cons_succ, List.getElem_cons_zero, List.setIfInBounds_toArray, List.set_cons_zero, List.set_cons_succ]
  refine wpAnyH_take (i := 7) (v := ?q1v7) rfl (by kernel_rfl) (by kernel_rfl) (by kernel_rfl) (by intro _ _ _ h; exact h) (Or.inl ⟨by rfl, ?q1hy7⟩) (by assumption) ?q1rest7
  case q1hy7 => (intro w hSw; (try dsimp only at hSw); go_simp; try with_reducible rfl)
  try simp only [Act.put, List.getElem_toArray, List.getElem_cons_succ, List.getElem_cons_zero, List.setIfInBounds_toArray, List.set_cons_zero, List.set_cons_succ]
  refine wpAnyH_take (i := 8) (v := ?q1v8) rfl (by kernel_rfl) (by kernel_rfl) (by kernel_rfl) (by intro _ _ _ h; exact h) (Or.inl ⟨by rfl, ?q1hy8⟩) (by assumption) ?q1rest8
  case q1hy8 => (intro w hSw; (try dsimp only at hSw); go_simp; try with_reducible rfl)
  try simp only [Act.put, List.getElem_toArray, List.getElem_cons_succ, List.getElem_cons_zero, List.setIfInBounds_toArray, List.set_cons_zero, List.set_cons_succ]
  refine wpAnyH_take (i := 9) (v := ?q1v9) rfl (by kernel_rfl) (by kernel_rfl) (by kernel_rfl) (by intro _ _ _ h; exact h) (Or.inl ⟨by rfl, ?q1hy9⟩) (by assumption) ?q1rest9
  case q1hy9 => (intro w hSw; (try dsimp only at hSw); go_simp; try with_reducible rfl)
  try simp only [Act.put, List.getElem_toArray, List.getElem_cons_succ, List.getElem_cons_zero, List.setIfInBounds_toArray, List.set_cons_zero, List.set_cons_succ]
  refine wpAnyH_take (i := 11) (v := ?q1v11) rfl (by kernel_rfl) (by kernel_rfl) (by kernel_rfl) (by intro _ _ _ h; exact h) (Or.inl ⟨by rfl, ?q1hy11⟩) (by assumption) ?q1rest11
  case q1hy11 => (intro w hSw; (try dsimp only at hSw); go_simp; try with_reducible rfl)
  try simp only [Act.put, List.getElem_toArray, List.getElem_cons_succ, List.getElem_cons_zero, List.setIfInBounds_toArray, List.set_cons_zero, List.set_cons_succ]
  refine wpAnyH_take (i := 12) (v := ?q1v12) rfl (by kernel_rfl) (by kernel_rfl) (by kernel_rfl) (by intro _ _ _ h; exact h) (Or.inl ⟨by rfl, ?q1hy12⟩) (by assumption) ?q1rest12
  case q1hy12 => (intro w hSw; (try dsimp only at hSw); go_simp; try with_reducible rfl)
  try simp only [Act.put, List.getElem_toArray, List.getElem_cons_succ, List.getElem_cons_zero, List.setIfInBounds_toArray, List.set_cons_zero, List.set_cons_succ]
  refine wpAnyH_ready (rs := [10]) (by kernel_rfl) (by simp) ?_
  refine AllReadyH.cons rfl (fun K hK => ?_) AllReadyH.nil
  go_simp
  go_wp2_with (go_at_call 29; refine (HCX.out A5 n5 c5 _ (HD.out.1.segB4 hHeld.1)).mono ?_; rintro _ w7 ⟨rfl, b7⟩)
  refine hK.out _ _ ?_ (fun hHeld => ?_)
  · try dsimp only
    (first | exact heldB_keep b8 hHeld | exact heldB_keep b7 hHeld | exact hHeld | exact heldB_refl _)
  clear hK K
  refine wpAnyH_ready (rs := [13]) (by kernel_rfl) (by simp) ?_
  refine AllReadyH.cons rfl (fun K hK => ?_) AllReadyH.nil
  go_simp
  go_wp2_with (go_at_call 29; refine (HCA.out _ (hp.segB4 (btr b06 hHeld.1 b06.size))).mono ?_; rintro _ w8 ⟨rfl, b8⟩)
  refine hK.out _ _ ?_ (fun hHeld => ?_)
  · try dsimp only
    (first | exact heldB_keep b8 hHeld | exact heldB_keep b7 hHeld | exact hHeld | exact heldB_refl _)
  clear hK K
  refine wpAnyH_take (i := 14) (v := ?q1v14) rfl (by kernel_rfl) (by kernel_rfl) (by kernel_rfl) (by intro _ _ _ h; exact h) (Or.inl ⟨by rfl, ?q1hy14⟩) (by assumption) ?q1rest14
  case q1hy14 => (intro w hSw; (try dsimp only at hSw); go_simp; try with_reducible rfl)
  try simp only [Act.put, List.getElem_toArray, List.getElem_cons_succ, List.getElem_cons_zero, List.setIfInBounds_toArray, List.set_cons_zero, List.set_cons_succ]
  refine wpAnyH_ready (rs := [15]) (by kernel_rfl) (by simp) ?_
  refine AllReadyH.cons rfl (fun K hK => ?_) AllReadyH.nil
  go_simp
  go_wp2_with (fail)
  refine hK.out _ _ ?_ (fun hHeld => ?_)
  · try dsimp only
    (first | exact heldB_keep b8 hHeld | exact heldB_keep b7 hHeld | exact hHeld | exact heldB_refl _)
  clear hK K
  refine wpAnyH_done (by kernel_rfl) ?_ _
  clear lt_hX lt_hZ lt_hF
  have bh8 := hHeld.1
  clear hHeld
  clear c_hX0 c_hX1 c_hX2 c_hX3 c_hX4 c_hX5 c_hX6 c_hX7 c_hX8 c_hX9 c_hX10 c_hZ0 c_hZ1 c_hZ2 c_hZ3 c_hZ4 c_hZ5 c_hZ6 c_hZ7 c_hZ8 c_hZ9 c_hZ10 c_hF0
  have b0h8 := btr b06 bh8 b06.size
  have hX_h8 := hX_6.below bh8 hX_6.lt
  clear hX_6
  have hZ_h8 := hZ.below bh8 hZ.lt
  have hF_h8 := hF.below bh8 hF.lt
  have c_hX0 := hX_h8.cell 0
  have c_hX1 := hX_h8.cell 1
  have c_hX2 := hX_h8.cell 2
  have c_hX3 := hX_h8.cell 3
  have c_hX4 := hX_h8.cell 4
  have c_hX5 := hX_h8.cell 5
  have c_hX6 := hX_h8.cell 6
  have c_hX7 := hX_h8.cell 7
  have c_hX8 := hX_h8.cell 8
  have c_hX9 := hX_h8.cell 9
  have c_hX10 := hX_h8.cell 10
  have c_hZ0 := hZ_h8.cell 0
  have c_hZ1 := hZ_h8.cell 1
  have c_hZ2 := hZ_h8.cell 2
  have c_hZ3 := hZ_h8.cell 3
  have c_hZ4 := hZ_h8.cell 4
  have c_hZ5 := hZ_h8.cell 5
  have c_hZ6 := hZ_h8.cell 6
  have c_hZ7 := hZ_h8.cell 7
  have c_hZ8 := hZ_h8.cell 8
  have c_hZ9 := hZ_h8.cell 9
  have c_hZ10 := hZ_h8.cell 10
  have c_hF0 := hF_h8.cell 0
  go_wp2_with fail
  refine (HFA.out _ (hp.segB4 b0h8)).mono ?_
  rintro _ w9 ⟨A9, n9, c9, rfl, o9, b9⟩
  clear c_hX0 c_hX1 c_hX2 c_hX3 c_hX4 c_hX5 c_hX6 c_hX7 c_hX8 c_hX9 c_hX10 c_hZ0 c_hZ1 c_hZ2 c_hZ3 c_hZ4 c_hZ5 c_hZ6 c_hZ7 c_hZ8 c_hZ9 c_hZ10 c_hF0
  have b09 := btr b0h8 b9 b0h8.size
  have hX_9 := hX_h8.below b9 hX_h8.lt
  clear hX_h8
  have hZ_9 := hZ_h8.below b9 hZ_h8.lt
  clear hZ_h8
  have hF_9 := hF_h8.below b9 hF_h8.lt
  clear hF_h8
  have c_hX0 := hX_9.cell 0
  have c_hX1 := hX_9.cell 1
  have c_hX2 := hX_9.cell 2
  have c_hX3 := hX_9.cell 3
  have c_hX4 := hX_9.cell 4
  have c_hX5 := hX_9.cell 5
  have c_hX6 := hX_9.cell 6
  have c_hX7 := hX_9.cell 7
  have c_hX8 := hX_9.cell 8
  have c_hX9 := hX_9.cell 9
  have c_hX10 := hX_9.cell 10
  have c_hZ0 := hZ_9.cell 0
  have c_hZ1 := hZ_9.cell 1
  have c_hZ2 := hZ_9.cell 2
  have c_hZ3 := hZ_9.cell 3
  have c_hZ4 := hZ_9.cell 4
  have c_hZ5 := hZ_9.cell 5
  have c_hZ6 := hZ_9.cell 6
  have c_hZ7 := hZ_9.cell 7
  have c_hZ8 := hZ_9.cell 8
  have c_hZ9 := hZ_9.cell 9
  have c_hZ10 := hZ_9.cell 10
  have c_hF0 := hF_9.cell 0
  have HB09 := Lib.hid b09
  have HB69 := Lib.hid (btr bh8 b9 bh8.size)
  have hn9 : n9 ≤ 64 := by have := o9.1; have := HFL.out; omega
  have HN9 := Lib.hid o9.1
  have hns := o9.ns
  go_wp2_with fail
  go_loop [9, 10] (fun big i => ∃ j m : Nat, j ≤ n9 ∧ i = .int .i64 j ∧ big = .int .i64 m ∧ m ≤ j ∧ Hid (m = 0 ↔ bigN (F.take j) = false)) (fun big i => n9 - (intOf i).toNat)
  case atStart => exact ⟨0, 0, by omega, rfl, rfl, Nat.le_refl _, Lib.hid (by simp [bigN])⟩
  case round =>
    obtain ⟨j, m, hj, rfl, rfl, hm, HB⟩ := hrel
    by_cases hlt : j < n9
    case pos =>
      obtain ⟨bb, off, rfl, hbw, hcw⟩ := hns.form hlt
      obtain ⟨y, hy⟩ : ∃ y, F[j]?.getD 0 = y := ⟨_, rfl⟩
      have hyl : F[j]? = some y := by
        have h1 : F[j]? = some F[j] := List.getElem?_eq_getElem (by have := HN9.out; omega)
        rw [h1] at hy ⊢
        simpa using hy
      rw [hy] at hcw
      have HT := Lib.hid (bigN_take hyl)
      have wj : IntKind.i64.wrap ((j : Int) + 1) = (j : Int) + 1 := IntWalk.i64_in _ ⟨by omega, by omega⟩
      have wm : IntKind.i64.wrap ((m : Int) + 1) = (m : Int) + 1 := IntWalk.i64_in _ ⟨by omega, by omega⟩
      have hlti : (j : Int) < n9 := by omega
      have hd : decide ((j : Int) < n9) = true := decide_eq_true hlti
      clear hy hyl
      by_cases hb : 65535 < y
      · have t1 : decide (65535 < y) = true := decide_eq_true hb
        have HR := Lib.hid (show (m + 1 = 0 ↔ bigN (F.take (j + 1)) = false) by rw [HT.out, t1]; simp)
        clear hb
        go_wp2_with fail
        go_round
        case rel => exact ⟨j + 1, m + 1, by omega, by go_num, by go_num, by omega, HR⟩
        case measure => simp [intOf]; omega
      · have t1 : decide (65535 < y) = false := decide_eq_false hb
        have HR := Lib.hid (show (m = 0 ↔ bigN (F.take (j + 1)) = false) by rw [HT.out, t1, Bool.or_false]; exact HB.out)
        clear hb
        go_wp2_with fail
        go_round
        case rel => exact ⟨j + 1, m, by omega, by go_num, rfl, by omega, HR⟩
        case measure => simp [intOf]; omega
    have HBF := Lib.hid (show m = 0 ↔ bigN F = false by have := HB.out; rwa [List.take_of_length_le (by have := HN9.out; omega)] at this)
    have hd : decide ((j : Int) < n9) = false := decide_eq_false (by omega)
    have hd' : decide (j < n9) = false := decide_eq_false hlt
    have hd2 : (n9 : Int) ≤ (j : Int) := by omega
    have HJ := Lib.hid hj
    clear hj hlt
    by_cases cm : m = 0
    case pos =>
      have u0 : ((m : Int) == 0) = true := by simp; omega
      have u0' : (m == 0) = true := by simpa using cm
      have HM := Lib.hid (HBF.out.1 cm)
      clear cm hm
      by_cases cg : gs ≤ 65535
      case pos =>
        have u1 : decide (gs ≤ 65535) = true := decide_eq_true cg
        by_cases ct2 : gs = 23456
        case pos =>
          have u2 : (gs != 23456) = false := by simpa using ct2
          clear cg ct2
          cases ha
          case false =>
            go_wp2_with fail
            refine (HAW.out _ (ht.call HB09.out)).mono ?_
            rintro _ w11 ⟨rfl, b11⟩
            have b011 := btr HB09.out b11 HB09.out.size
            go_wp2_with fail
            go_ret
            exact ⟨rfl, b011⟩
          case true =>
            go_wp2_with fail
            refine (HAW.out _ (ht.call HB09.out)).mono ?_
            rintro _ w11 ⟨rfl, b11⟩
            have b011 := btr HB09.out b11 HB09.out.size
            go_wp2_with fail
            go_ret
            exact ⟨rfl, b011⟩
        have u2 : (gs != 23456) = true := by simpa using ct2
        have HXA := Lib.hid (HC1.out ⟨HM.out, cg, ct2⟩)
        clear cg ct2
        go_wp2_with fail
        refine (HSM.out A5 n5 c5 A6 n6 c6 A7 n7 c7 _ HXA.out (HD.out.1.segB4 HB69.out) (HD.out.2.1.numB4 HB69.out) (HD.out.2.2.rawB4 HB69.out) (hp.segB4 HB09.out) (hcm.numB4 HB09.out) (hrw.rawB4 HB09.out)).mono ?_
        rintro _ w10 ⟨rfl, b10⟩
        have b010 := btr HB09.out b10 HB09.out.size
        go_wp2_with fail
        refine (HAW.out _ (ht.call b010)).mono ?_
        rintro _ w11 ⟨rfl, b11⟩
        have b011 := btr b010 b11 b010.size
        go_wp2_with fail
        go_ret
        exact ⟨rfl, b011⟩
      have u1 : decide (gs ≤ 65535) = false := decide_eq_false cg
      clear cg
      cases ha
      case false =>
        go_wp2_with fail
        refine (HAW.out _ (ht.call HB09.out)).mono ?_
        rintro _ w11 ⟨rfl, b11⟩
        have b011 := btr HB09.out b11 HB09.out.size
        go_wp2_with fail
        go_ret
        exact ⟨rfl, b011⟩
      case true =>
        go_wp2_with fail
        refine (HAW.out _ (ht.call HB09.out)).mono ?_
        rintro _ w11 ⟨rfl, b11⟩
        have b011 := btr HB09.out b11 HB09.out.size
        go_wp2_with fail
        go_ret
        exact ⟨rfl, b011⟩
    have u0 : ((m : Int) == 0) = false := by simp; omega
    have u0' : (m == 0) = false := by simpa using cm
    have hbt : bigN F = true := by
      cases hq : bigN F
      · exact absurd (HBF.out.2 hq) cm
      · rfl
    have HBT := Lib.hid hbt
    clear cm hm hbt
    cases ha
    case true =>
      go_wp2_with fail
      refine (HAW.out _ (ht.call HB09.out)).mono ?_
      rintro _ w11 ⟨rfl, b11⟩
      have b011 := btr HB09.out b11 HB09.out.size
      go_wp2_with fail
      go_ret
      exact ⟨rfl, b011⟩
    have HXA := Lib.hid (HC2.out rfl HBT.out)
    go_wp2_with fail
    refine (HSM.out A5 n5 c5 A6 n6 c6 A7 n7 c7 _ HXA.out (HD.out.1.segB4 HB69.out) (HD.out.2.1.numB4 HB69.out) (HD.out.2.2.rawB4 HB69.out) (hp.segB4 HB09.out) (hcm.numB4 HB09.out) (hrw.rawB4 HB09.out)).mono ?_
    rintro _ w10 ⟨rfl, b10⟩
    have b010 := btr HB09.out b10 HB09.out.size
    go_wp2_with fail
    refine (HAW.out _ (ht.call b010)).mono ?_
    rintro _ w11 ⟨rfl, b11⟩
    have b011 := btr b010 b11 b010.size
    go_wp2_with fail
    go_ret
    exact ⟨rfl, b011⟩
end Go.Proofs.YtlpkngjeihoknaaDoor
