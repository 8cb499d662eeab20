/- Joined texts (UpdLawC AttOpn OpenUpd OpenUpdC). Conditions: those of the theorems. -/
import Derived.Test.YthgjknmfghjioaaGreatDoorProg
import Derived.WalkKit
import Derived.WalkSpells
import Derived.WalkLawsBesides
import Derived.Outline
import Derived.Deep.QuietTactic
import Derived.BigQuiet
import Derived.Handy
import Derived.Lib.Hide
import Derived.Test.YthgjknmfghjioaaGreatDoorUF1
import Derived.Test.YthgjknmfghjioaaGreatDoorUF3
import Derived.Test.YthgjknmfghjioaaGreatDoorUF7
import Derived.Laws.Cover4
import Derived.OrdersHeld
import Derived.Deep.RegionHeld
import Derived.Deep.DeepCutAuto
import Derived.Deep.CutBlock
import Derived.Deep.Strs
import Derived.SizedLaws
import Derived.Test.YthgjknmfghjioaaGreatDoorOpen
import Derived.Test.YthgjknmfghjioaaGreatDoorRows
import Derived.ProofKit
import Derived.OpenShut
import Derived.Lib.LaidTab
import Derived.Test.YthgjknmfghjioaaGreatDoorTki
namespace Go.Proofs.YthgjknmfghjioaaGreatDoor
open Go.RowKit
set_option linter.unusedSimpArgs false
set_option linter.unusedVariables false
theorem OX.reads {w : World} {base n c : Nat} {A : Option Addr} {l : List Pfx} (h : OX w base A n c l) : Reads w w.heap.size 2 A n (pc l) := Reads.of_own h.2.1
theorem DL.readsPx {w : World} {S : Nat → Prop} {B n : Nat} {A : Option Addr} {l : List Pfx} (h : DL rPfx 2 w S A n l) (hS : ∀ b, S b → b < B) : Reads w B 2 A n (pc l) := by
 obtain ⟨css, h1, h2, h3, h4, h5⟩ := h
 have e : css = l.map pc1 := by
  refine List.ext_getElem? fun i => ?_
  rcases Nat.lt_or_ge i css.length with hi | hi
  ·have hl : i < l.length := by omega
   have := (h4 i css[i] l[i] (List.getElem?_eq_getElem hi) (List.getElem?_eq_getElem hl)).1
   rw [List.getElem?_eq_getElem hi, List.getElem?_map, List.getElem?_eq_getElem hl, Option.map_some, this]
   rfl
  ·rw [List.getElem?_eq_none hi, List.getElem?_eq_none (by rw [List.length_map]; omega)]
 rw [e] at h3
 exact h3.reads hS
theorem DL.wfx {w : World} {S : Nat → Prop} {A : Option Addr} {n : Nat} {l : List Pfx} (h : DL rPfx 2 w S A n l) : ∀ p ∈ l, wfPx p := by
 intro p hp
 obtain ⟨i, hi⟩ := List.getElem?_of_mem hp
 obtain ⟨_, _, _, _, _, _, h1, h2⟩ := h.pfxAt hi
 exact ⟨h1, h2⟩
/-- append of prefixes onto prefixes of the call's own, in a region that draws its order. -/
theorem step_appX {w : World} {ops : Array Oper} {o : Oper} {a : Act} {K : Act → World → Prop} {Q : Exit → Act → World → Prop} {E : Prop} (hgd : o.guard = none) (s x : Operand)
  (ho : o.op = .call { callee := .builtin .append, args := #[s, x], argTypes := #[70, 70] })
  (base : Nat) (A : Option Addr) (n c : Nat) (l : List Pfx) (hs : a.eval s = .slice A n c) (hown : OX w base A n c l)
  (B : Nat) (A' : Option Addr) (m c' : Nat) (l' : List Pfx) (hx : a.eval x = .slice A' m c') (hr : Reads w B 2 A' m (pc l')) (hm : m = l'.length) (hwf : ∀ p ∈ l', wfPx p)
  (hlen : l.length + l'.length ≤ 1000000) (hbase : base ≤ w.heap.size)
  (h : ∀ (A2 : Option Addr) (n2 c2 : Nat) (w' : World), OX w' base A2 n2 c2 (l ++ l') → w.grownBy w' (Value.ownBlock (.slice A n c)) → (Value.ownBlock (.slice A2 n2 c2) = Value.ownBlock (.slice A n c) ∨ Value.ownBlock (.slice A2 n2 c2) = some w.heap.size) → K (a.put o.dst (.slice A2 n2 c2)) w') :
  if Region.wanted o (yielded ops a.tmps) = true then Oper.wp Tryz.prog o a w K Q else E := by
 obtain ⟨i, hi, hz, h1', h2'⟩ : ∃ i, Tryz.prog.info? 146 = some i ∧ i.zero = some (.agg #[.int .u32 0, .int .i64 0]) ∧ i.size = 2 ∧ i.bytes = 16 := by
  have := pfx_info3
  simp only [Option.map_eq_some_iff, Prod.mk.injEq] at this
  exact this
 have e1 := hown.1
 refine step_append_any _ hgd s x 70 ho base 146 i (.agg #[.int .u32 0, .int .i64 0]) 2 16 Tryz.underlying70 hi hz h1' h2' rfl (by omega) (.slice A n c) n (pc l) hs hown.2.1 B A' m c' (pc l') hx hr (pc_one l') (by unfold maxLen; omega) (by omega) hbase ?_
 intro v' w' o' g' hat
 obtain ⟨A2, c2, rfl⟩ : ∃ A2 c2, v' = .slice A2 (n + m) c2 := by
  rcases o'.2 with ⟨rfl, hnil⟩ | ⟨g, cap, cur, hv, _⟩
  ·exact ⟨none, 0, by rw [hnil]⟩
  ·exact ⟨_, _, hv⟩
 refine h A2 (n + m) c2 w' ⟨by rw [List.length_append]; omega, by rw [pc_app]; exact o', fun p hp => ?_⟩ g' hat
 rcases List.mem_append.1 hp with hp | hp
 ·exact hown.2.2 p hp
 ·exact hwf p hp
theorem flC_size (z : Bool) (Ag : Option Addr) (ng cg : Nat) (o : Int) (A : Option Addr) (n c : Nat) (nx md pf : Int) (at_ ha : Bool) (gs ga : Int) (A1 : Option Addr) (n1 c1 : Nat) (A2 : Option Addr) (n2 c2 : Nat) (An : Option Addr) (nn cn : Nat) : (Tryz.prog.info? 77).map (·.size) = some (flC z Ag ng cg o A n c nx md pf at_ ha gs ga A1 n1 c1 A2 n2 c2 An nn cn).size := by
 rw [upd_info1]
 cases z <;> rfl
theorem flC_0 (z : Bool) (Ag : Option Addr) (ng cg : Nat) (o : Int) (A : Option Addr) (n c : Nat) (nx md pf : Int) (at_ ha : Bool) (gs ga : Int) (A1 : Option Addr) (n1 c1 : Nat) (A2 : Option Addr) (n2 c2 : Nat) (An : Option Addr) (nn cn : Nat) : (flC z Ag ng cg o A n c nx md pf at_ ha gs ga A1 n1 c1 A2 n2 c2 An nn cn)[0]? = some (.slice Ag ng cg) := by cases z <;> rfl
theorem flC_12 (z : Bool) (Ag : Option Addr) (ng cg : Nat) (o : Int) (A : Option Addr) (n c : Nat) (nx md pf : Int) (at_ ha : Bool) (gs ga : Int) (A1 : Option Addr) (n1 c1 : Nat) (A2 : Option Addr) (n2 c2 : Nat) (An : Option Addr) (nn cn : Nat) : (flC z Ag ng cg o A n c nx md pf at_ ha gs ga A1 n1 c1 A2 n2 c2 An nn cn)[12]? = some (.slice An nn cn) := by cases z <;> rfl
set_option maxHeartbeats 16000000 in
set_option maxRecDepth 100000 in
theorem lawUpdateFlows (w : World) (Ag : Option Addr) (ng cg : Nat) (gone : List Pfx) (o : Int) (A : Option Addr) (n c : Nat) (path : List Seg) (nx md pf : Int) (at_ ha : Bool) (gs ga : Int) (A1 : Option Addr) (n1 c1 : Nat) (comms : List Int) (A2 : Option Addr) (n2 c2 : Nat) (raws : List RawV) (An : Option Addr) (nn cn : Nat) (news : List Pfx) (hg : DL rPfx 2 w (Lo w) Ag ng gone) (hp : DL rSeg 2 w (Lo w) A n path) (hc : NF w (Lo w) A1 n1 comms) (hd : DL rRaw 3 w (Lo w) A2 n2 raws) (hm : DL rPfx 2 w (Lo w) An nn news) (hwf : 0 ≤ nx ∧ nx < 4294967296 ∧ 0 ≤ gs ∧ gs < 4294967296 ∧ 0 ≤ ga ∧ ga < 4294967296) (hrm : ∀ x ∈ path, x.2.length ≤ big32) (hcap : ng ≤ cg ∧ nn ≤ cn) (r8 : Int) (wr8 : (Lit.int .u8 r8).wf = true) (ht : LookTab w) :
  Calls Tryz.prog 7 #[.agg #[.slice Ag ng cg, .int .i64 o, .slice A n c, .int .u32 nx, .int .i64 md, .int .i64 pf, .bool at_, .bool ha, .int .u32 gs, .int .u32 ga, .slice A1 n1 c1, .slice A2 n2 c2, .slice An nn cn], .int .u8 r8] w fun en w' => en = .returned (.bool true) ∧ Below w.heap.size w w' := by
 obtain ⟨r, hr⟩ : ∃ r, fewU (⟨gone, ⟨o, path, nx, md, pf, at_, ha, gs, ga, comms, raws⟩, news⟩ : Upd) 60 = r := ⟨_, rfl⟩
 have HFW := Lib.hid (show ∀ w', DL rPfx 2 w' (Lo w') Ag ng gone → DL rSeg 2 w' (Lo w') A n path → NF w' (Lo w') A1 n1 comms → DL rRaw 3 w' (Lo w') A2 n2 raws → DL rPfx 2 w' (Lo w') An nn news → Calls Tryz.prog 34 #[.agg #[.slice Ag ng cg, .int .i64 o, .slice A n c, .int .u32 nx, .int .i64 md, .int .i64 pf, .bool at_, .bool ha, .int .u32 gs, .int .u32 ga, .slice A1 n1 c1, .slice A2 n2 c2, .slice An nn cn], .int .i64 (60 : Nat)] w' fun en w'' => en = .returned (.bool r) ∧ Below w'.heap.size w' w'' from fun w' h1 h2 h3 h4 h5 => by rw [← hr]; exact law05Few Ag ng cg gone o A n c path nx md pf at_ ha gs ga A1 n1 c1 comms A2 n2 c2 raws An nn cn news 60 w' h1 h2 h3 h4 h5 (by omega))
 have HAW := Lib.hid (show ∀ w', LookTab w' → Calls Tryz.prog 35 #[] w' fun en w'' => en = .returned (.bool true) ∧ Below w'.heap.size w' w'' from fun w' h => awake05 w' h)
 cases r
 case false =>
  clear hr hrm hwf
  obtain ⟨W, hW, hX, b0⟩ := box1c w #[.slice Ag ng cg, .int .i64 o, .slice A n c, .int .u32 nx, .int .i64 md, .int .i64 pf, .bool at_, .bool ha, .int .u32 gs, .int .u32 ga, .slice A1 n1 c1, .slice A2 n2 c2, .slice An nn cn] 77
  go_enter Tryz.func7, Tryz.ntmps7
  go_upto_region 1 with fail
  try rw [hW]
  obtain ⟨q, hq⟩ : ∃ q, w.heap.size = q := ⟨_, rfl⟩
  try rw [hq]
  rw [hq] at hX
  clear hW hq
  have c_hX0 := hX.cell 0
  have c_hX1 := hX.cell 1
  have c_hX2 := hX.cell 2
  have c_hX3 := hX.cell 3
  have c_hX4 := hX.cell 4
  have c_hX5 := hX.cell 5
  have c_hX6 := hX.cell 6
  have c_hX7 := hX.cell 7
  have c_hX8 := hX.cell 8
  have c_hX9 := hX.cell 9
  have c_hX10 := hX.cell 10
  have c_hX11 := hX.cell 11
  have c_hX12 := hX.cell 12
  go_wp2_with fail
  refine (HFW.out _ (hg.pfxB5 b0) (hp.segB5 b0) (hc.numB5 b0) (hd.rawB5 b0) (hm.pfxB5 b0)).mono ?_
  rintro _ w1 ⟨rfl, b1⟩
  clear c_hX0 c_hX1 c_hX2 c_hX3 c_hX4 c_hX5 c_hX6 c_hX7 c_hX8 c_hX9 c_hX10 c_hX11 c_hX12
  have b01 := btr b0 b1 b0.size
  have hX_1 := hX.below b1 hX.lt
  have c_hX0 := hX_1.cell 0
  have c_hX1 := hX_1.cell 1
  have c_hX2 := hX_1.cell 2
  have c_hX3 := hX_1.cell 3
  have c_hX4 := hX_1.cell 4
  have c_hX5 := hX_1.cell 5
  have c_hX6 := hX_1.cell 6
  have c_hX7 := hX_1.cell 7
  have c_hX8 := hX_1.cell 8
  have c_hX9 := hX_1.cell 9
  have c_hX10 := hX_1.cell 10
  have c_hX11 := hX_1.cell 11
  have c_hX12 := hX_1.cell 12
  go_wp2_with fail
  refine (HAW.out _ (ht.call b01)).mono ?_
  rintro _ w2 ⟨rfl, b2⟩
  clear c_hX0 c_hX1 c_hX2 c_hX3 c_hX4 c_hX5 c_hX6 c_hX7 c_hX8 c_hX9 c_hX10 c_hX11 c_hX12
  have b02 := btr b01 b2 b01.size
  have hX_2 := hX_1.below b2 hX_1.lt
  clear hX_1
  have c_hX0 := hX_2.cell 0
  have c_hX1 := hX_2.cell 1
  have c_hX2 := hX_2.cell 2
  have c_hX3 := hX_2.cell 3
  have c_hX4 := hX_2.cell 4
  have c_hX5 := hX_2.cell 5
  have c_hX6 := hX_2.cell 6
  have c_hX7 := hX_2.cell 7
  have c_hX8 := hX_2.cell 8
  have c_hX9 := hX_2.cell 9
  have c_hX10 := hX_2.cell 10
  have c_hX11 := hX_2.cell 11
  have c_hX12 := hX_2.cell 12
  go_wp2_with fail
  go_ret
  exact ⟨rfl, b02⟩
 have hr5 : fewAt path comms raws = true ∧ gone.length ≤ 60 ∧ news.length ≤ 60 := by
  unfold fewU at hr
  simp only [Bool.and_eq_true, decide_eq_true_eq] at hr
  exact ⟨hr.1.1, hr.1.2, hr.2⟩
 obtain ⟨hfw, hc60, hr12, hd400⟩ := fewAt_of hr5.1
 have hfa := fewA_of hfw hrm
 have hzz : n ≤ 12 ∧ n2 ≤ 100000 ∧ ng ≤ 10000 ∧ nn ≤ 10000 := ⟨by have := hp.len; omega, by have := hd.len; omega, by have := hg.len; omega, by have := hm.len; omega⟩
 have HS := Lib.hid hfa.2
 have hn1c : n1 ≤ 60 := by have := hc.1; omega
 obtain ⟨ra, hra⟩ : ∃ x, rightAt (⟨o, path, nx, md, pf, at_, ha, gs, ga, comms, raws⟩ : At) = x := ⟨_, rfl⟩
 have HR2 := Lib.hid (show ∀ w', DL rSeg 2 w' (Lo w') A n path → DL rRaw 3 w' (Lo w') A2 n2 raws → Calls Tryz.prog 42 #[.agg #[.int .i64 o, .slice A n c, .int .u32 nx, .int .i64 md, .int .i64 pf, .bool at_, .bool ha, .int .u32 gs, .int .u32 ga, .slice A1 n1 c1, .slice A2 n2 c2]] w' fun en w'' => en = .returned (.bool ra) ∧ Below w'.heap.size w' w'' from fun w' h1 h2 => by rw [← hra]; exact refRight04 o A n c path nx md pf at_ ha gs ga A1 n1 c1 comms A2 n2 c2 raws w' h1 hc.1 h2 (by omega) (by omega))
 obtain ⟨nb, hnb⟩ : ∃ x, nextA nx = x := ⟨_, rfl⟩
 have HN2 := Lib.hid (show ∀ w', Calls Tryz.prog 39 #[.int .u32 nx] w' fun en w'' => en = .returned (.bool nb) ∧ Below w'.heap.size w' w'' from fun w' => by rw [← hnb]; exact (refNext04 nx w' hwf.1 hwf.2.1).mono fun e w'' hx => ⟨hx.1, by rw [← hx.2]; exact Below.refl _ _⟩)
 cases ra
 case false =>
  clear hr hrm hwf hfw hc60 hr12 hd400 hfa hzz hn1c HS hr5 hra hnb
  obtain ⟨W, hW, hX, b0⟩ := box1c w #[.slice Ag ng cg, .int .i64 o, .slice A n c, .int .u32 nx, .int .i64 md, .int .i64 pf, .bool at_, .bool ha, .int .u32 gs, .int .u32 ga, .slice A1 n1 c1, .slice A2 n2 c2, .slice An nn cn] 77
  go_enter Tryz.func7, Tryz.ntmps7
  go_upto_region 1 with fail
  try rw [hW]
  obtain ⟨q, hq⟩ : ∃ q, w.heap.size = q := ⟨_, rfl⟩
  try rw [hq]
  rw [hq] at hX
  clear hW hq
  have c_hX0 := hX.cell 0
  have c_hX1 := hX.cell 1
  have c_hX2 := hX.cell 2
  have c_hX3 := hX.cell 3
  have c_hX4 := hX.cell 4
  have c_hX5 := hX.cell 5
  have c_hX6 := hX.cell 6
  have c_hX7 := hX.cell 7
  have c_hX8 := hX.cell 8
  have c_hX9 := hX.cell 9
  have c_hX10 := hX.cell 10
  have c_hX11 := hX.cell 11
  have c_hX12 := hX.cell 12
  go_wp2_with fail
  refine (HFW.out _ (hg.pfxB5 b0) (hp.segB5 b0) (hc.numB5 b0) (hd.rawB5 b0) (hm.pfxB5 b0)).mono ?_
  rintro _ w1 ⟨rfl, b1⟩
  clear c_hX0 c_hX1 c_hX2 c_hX3 c_hX4 c_hX5 c_hX6 c_hX7 c_hX8 c_hX9 c_hX10 c_hX11 c_hX12
  have b01 := btr b0 b1 b0.size
  have hX_1 := hX.below b1 hX.lt
  have c_hX0 := hX_1.cell 0
  have c_hX1 := hX_1.cell 1
  have c_hX2 := hX_1.cell 2
  have c_hX3 := hX_1.cell 3
  have c_hX4 := hX_1.cell 4
  have c_hX5 := hX_1.cell 5
  have c_hX6 := hX_1.cell 6
  have c_hX7 := hX_1.cell 7
  have c_hX8 := hX_1.cell 8
  have c_hX9 := hX_1.cell 9
  have c_hX10 := hX_1.cell 10
  have c_hX11 := hX_1.cell 11
  have c_hX12 := hX_1.cell 12
  go_wp2_with fail
  refine (HR2.out _ (hp.segB5 b01) (hd.rawB5 b01)).mono ?_
  rintro _ w2 ⟨rfl, b2⟩
  clear c_hX0 c_hX1 c_hX2 c_hX3 c_hX4 c_hX5 c_hX6 c_hX7 c_hX8 c_hX9 c_hX10 c_hX11 c_hX12
  have b02 := btr b01 b2 b01.size
  have hX_2 := hX_1.below b2 hX_1.lt
  clear hX_1
  have c_hX0 := hX_2.cell 0
  have c_hX1 := hX_2.cell 1
  have c_hX2 := hX_2.cell 2
  have c_hX3 := hX_2.cell 3
  have c_hX4 := hX_2.cell 4
  have c_hX5 := hX_2.cell 5
  have c_hX6 := hX_2.cell 6
  have c_hX7 := hX_2.cell 7
  have c_hX8 := hX_2.cell 8
  have c_hX9 := hX_2.cell 9
  have c_hX10 := hX_2.cell 10
  have c_hX11 := hX_2.cell 11
  have c_hX12 := hX_2.cell 12
  go_wp2_with fail
  refine (HAW.out _ (ht.call b02)).mono ?_
  rintro _ w3 ⟨rfl, b3⟩
  clear c_hX0 c_hX1 c_hX2 c_hX3 c_hX4 c_hX5 c_hX6 c_hX7 c_hX8 c_hX9 c_hX10 c_hX11 c_hX12
  have b03 := btr b02 b3 b02.size
  have hX_3 := hX_2.below b3 hX_2.lt
  clear hX_2
  have c_hX0 := hX_3.cell 0
  have c_hX1 := hX_3.cell 1
  have c_hX2 := hX_3.cell 2
  have c_hX3 := hX_3.cell 3
  have c_hX4 := hX_3.cell 4
  have c_hX5 := hX_3.cell 5
  have c_hX6 := hX_3.cell 6
  have c_hX7 := hX_3.cell 7
  have c_hX8 := hX_3.cell 8
  have c_hX9 := hX_3.cell 9
  have c_hX10 := hX_3.cell 10
  have c_hX11 := hX_3.cell 11
  have c_hX12 := hX_3.cell 12
  go_wp2_with fail
  go_ret
  exact ⟨rfl, b03⟩
 cases nb
 case false =>
  clear hr hrm hwf hfw hc60 hr12 hd400 hfa hzz hn1c HS hr5 hra hnb
  obtain ⟨W, hW, hX, b0⟩ := box1c w #[.slice Ag ng cg, .int .i64 o, .slice A n c, .int .u32 nx, .int .i64 md, .int .i64 pf, .bool at_, .bool ha, .int .u32 gs, .int .u32 ga, .slice A1 n1 c1, .slice A2 n2 c2, .slice An nn cn] 77
  go_enter Tryz.func7, Tryz.ntmps7
  go_upto_region 1 with fail
  try rw [hW]
  obtain ⟨q, hq⟩ : ∃ q, w.heap.size = q := ⟨_, rfl⟩
  try rw [hq]
  rw [hq] at hX
  clear hW hq
  have c_hX0 := hX.cell 0
  have c_hX1 := hX.cell 1
  have c_hX2 := hX.cell 2
  have c_hX3 := hX.cell 3
  have c_hX4 := hX.cell 4
  have c_hX5 := hX.cell 5
  have c_hX6 := hX.cell 6
  have c_hX7 := hX.cell 7
  have c_hX8 := hX.cell 8
  have c_hX9 := hX.cell 9
  have c_hX10 := hX.cell 10
  have c_hX11 := hX.cell 11
  have c_hX12 := hX.cell 12
  go_wp2_with fail
  refine (HFW.out _ (hg.pfxB5 b0) (hp.segB5 b0) (hc.numB5 b0) (hd.rawB5 b0) (hm.pfxB5 b0)).mono ?_
  rintro _ w1 ⟨rfl, b1⟩
  clear c_hX0 c_hX1 c_hX2 c_hX3 c_hX4 c_hX5 c_hX6 c_hX7 c_hX8 c_hX9 c_hX10 c_hX11 c_hX12
  have b01 := btr b0 b1 b0.size
  have hX_1 := hX.below b1 hX.lt
  have c_hX0 := hX_1.cell 0
  have c_hX1 := hX_1.cell 1
  have c_hX2 := hX_1.cell 2
  have c_hX3 := hX_1.cell 3
  have c_hX4 := hX_1.cell 4
  have c_hX5 := hX_1.cell 5
  have c_hX6 := hX_1.cell 6
  have c_hX7 := hX_1.cell 7
  have c_hX8 := hX_1.cell 8
  have c_hX9 := hX_1.cell 9
  have c_hX10 := hX_1.cell 10
  have c_hX11 := hX_1.cell 11
  have c_hX12 := hX_1.cell 12
  go_wp2_with fail
  refine (HR2.out _ (hp.segB5 b01) (hd.rawB5 b01)).mono ?_
  rintro _ w2 ⟨rfl, b2⟩
  clear c_hX0 c_hX1 c_hX2 c_hX3 c_hX4 c_hX5 c_hX6 c_hX7 c_hX8 c_hX9 c_hX10 c_hX11 c_hX12
  have b02 := btr b01 b2 b01.size
  have hX_2 := hX_1.below b2 hX_1.lt
  clear hX_1
  have c_hX0 := hX_2.cell 0
  have c_hX1 := hX_2.cell 1
  have c_hX2 := hX_2.cell 2
  have c_hX3 := hX_2.cell 3
  have c_hX4 := hX_2.cell 4
  have c_hX5 := hX_2.cell 5
  have c_hX6 := hX_2.cell 6
  have c_hX7 := hX_2.cell 7
  have c_hX8 := hX_2.cell 8
  have c_hX9 := hX_2.cell 9
  have c_hX10 := hX_2.cell 10
  have c_hX11 := hX_2.cell 11
  have c_hX12 := hX_2.cell 12
  go_wp2_with fail
  refine (HN2.out _).mono ?_
  rintro _ w3 ⟨rfl, b3⟩
  clear c_hX0 c_hX1 c_hX2 c_hX3 c_hX4 c_hX5 c_hX6 c_hX7 c_hX8 c_hX9 c_hX10 c_hX11 c_hX12
  have b03 := btr b02 b3 b02.size
  have hX_3 := hX_2.below b3 hX_2.lt
  clear hX_2
  have c_hX0 := hX_3.cell 0
  have c_hX1 := hX_3.cell 1
  have c_hX2 := hX_3.cell 2
  have c_hX3 := hX_3.cell 3
  have c_hX4 := hX_3.cell 4
  have c_hX5 := hX_3.cell 5
  have c_hX6 := hX_3.cell 6
  have c_hX7 := hX_3.cell 7
  have c_hX8 := hX_3.cell 8
  have c_hX9 := hX_3.cell 9
  have c_hX10 := hX_3.cell 10
  have c_hX11 := hX_3.cell 11
  have c_hX12 := hX_3.cell 12
  go_wp2_with fail
  refine (HAW.out _ (ht.call b03)).mono ?_
  rintro _ w4 ⟨rfl, b4⟩
  clear c_hX0 c_hX1 c_hX2 c_hX3 c_hX4 c_hX5 c_hX6 c_hX7 c_hX8 c_hX9 c_hX10 c_hX11 c_hX12
  have b04 := btr b03 b4 b03.size
  have hX_4 := hX_3.below b4 hX_3.lt
  clear hX_3
  have c_hX0 := hX_4.cell 0
  have c_hX1 := hX_4.cell 1
  have c_hX2 := hX_4.cell 2
  have c_hX3 := hX_4.cell 3
  have c_hX4 := hX_4.cell 4
  have c_hX5 := hX_4.cell 5
  have c_hX6 := hX_4.cell 6
  have c_hX7 := hX_4.cell 7
  have c_hX8 := hX_4.cell 8
  have c_hX9 := hX_4.cell 9
  have c_hX10 := hX_4.cell 10
  have c_hX11 := hX_4.cell 11
  have c_hX12 := hX_4.cell 12
  go_wp2_with fail
  go_ret
  exact ⟨rfl, b04⟩
 have HWF := Lib.hid (show WFA (⟨o, path, nx, md, pf, at_, ha, gs, ga, comms, raws⟩ : At) from ⟨⟨hwf.1, hwf.2.1⟩, ⟨hwf.2.2.1, hwf.2.2.2.1⟩, ⟨hwf.2.2.2.2.1, hwf.2.2.2.2.2⟩, DL.wfA hp, NF.wfB hc⟩)
 have hr8 : 0 ≤ r8 ∧ r8 ≤ 255 := by simpa [Lit.wf, IntKind.min, IntKind.max, IntKind.signed, IntKind.bits] using wr8
 have HR8 := Lib.hid hr8
 have HZZ := Lib.hid hzz
 have HRA := Lib.hid hra
 have HNB := Lib.hid hnb
 have HW4 := Lib.hid hwf
 have HG60 := Lib.hid (show ng ≤ 60 ∧ nn ≤ 60 from ⟨by have := hg.len; omega, by have := hm.len; omega⟩)
 have HCAP := Lib.hid hcap
 obtain ⟨pb, hpb⟩ : ∃ x, updPut true (⟨gone, ⟨o, path, nx, md, pf, at_, ha, gs, ga, comms, raws⟩, news⟩ : Upd) = x := ⟨_, rfl⟩
 obtain ⟨bs2, x2⟩ := pb
 have HP2 := Lib.hid (show ∀ w', DL rPfx 2 w' (Lo w') Ag ng gone → DL rSeg 2 w' (Lo w') A n path → NF w' (Lo w') A1 n1 comms → DL rRaw 3 w' (Lo w') A2 n2 raws → DL rPfx 2 w' (Lo w') An nn news → Calls Tryz.prog 37 #[.agg #[.slice Ag ng cg, .int .i64 o, .slice A n c, .int .u32 nx, .int .i64 md, .int .i64 pf, .bool at_, .bool ha, .int .u32 gs, .int .u32 ga, .slice A1 n1 c1, .slice A2 n2 c2, .slice An nn cn], .bool true] w' (RetPut w' bs2 x2) from fun w' h1 h2 h3 h4 h5 => by
  have := refPut05 Ag ng cg gone o A n c path nx md pf at_ ha gs ga A1 n1 c1 comms A2 n2 c2 raws An nn cn news w' h1 h2 h3 h4 h5 HS (Lib.hid hwf) hzz
  rw [hpb] at this
  exact this)
 have HX2 := Lib.hid (show updOk (⟨gone, ⟨o, path, nx, md, pf, at_, ha, gs, ga, comms, raws⟩, news⟩ : Upd) = false → x2 = 1 from fun h => by
  unfold updPut at hpb
  rw [h] at hpb
  simp at hpb
  exact hpb.2.symm)
 clear hr hrm hwf hfw hc60 hr12 hd400 hfa hzz hn1c hr5 hra hnb hpb hr8 wr8 hcap
 obtain ⟨W, hW, hX, b0⟩ := box1c w #[.slice Ag ng cg, .int .i64 o, .slice A n c, .int .u32 nx, .int .i64 md, .int .i64 pf, .bool at_, .bool ha, .int .u32 gs, .int .u32 ga, .slice A1 n1 c1, .slice A2 n2 c2, .slice An nn cn] 77
 go_enter Tryz.func7, Tryz.ntmps7
 go_upto_region 1 with fail
 try rw [hW]
 obtain ⟨q, hq⟩ : ∃ q, w.heap.size = q := ⟨_, rfl⟩
 try rw [hq]
 rw [hq] at hX
 have hqz : w.heap.size ≤ q := by omega
 clear hW hq
 have c_hX0 := hX.cell 0
 have c_hX1 := hX.cell 1
 have c_hX2 := hX.cell 2
 have c_hX3 := hX.cell 3
 have c_hX4 := hX.cell 4
 have c_hX5 := hX.cell 5
 have c_hX6 := hX.cell 6
 have c_hX7 := hX.cell 7
 have c_hX8 := hX.cell 8
 have c_hX9 := hX.cell 9
 have c_hX10 := hX.cell 10
 have c_hX11 := hX.cell 11
 have c_hX12 := hX.cell 12
 go_wp2_with fail
 refine (HFW.out _ (hg.pfxB5 b0) (hp.segB5 b0) (hc.numB5 b0) (hd.rawB5 b0) (hm.pfxB5 b0)).mono ?_
 rintro _ w1 ⟨rfl, b1⟩
 clear c_hX0 c_hX1 c_hX2 c_hX3 c_hX4 c_hX5 c_hX6 c_hX7 c_hX8 c_hX9 c_hX10 c_hX11 c_hX12
 have b01 := btr b0 b1 b0.size
 have hX_1 := hX.below b1 hX.lt
 have c_hX0 := hX_1.cell 0
 have c_hX1 := hX_1.cell 1
 have c_hX2 := hX_1.cell 2
 have c_hX3 := hX_1.cell 3
 have c_hX4 := hX_1.cell 4
 have c_hX5 := hX_1.cell 5
 have c_hX6 := hX_1.cell 6
 have c_hX7 := hX_1.cell 7
 have c_hX8 := hX_1.cell 8
 have c_hX9 := hX_1.cell 9
 have c_hX10 := hX_1.cell 10
 have c_hX11 := hX_1.cell 11
 have c_hX12 := hX_1.cell 12
 go_wp2_with fail
 refine (HR2.out _ (hp.segB5 b01) (hd.rawB5 b01)).mono ?_
 rintro _ w2 ⟨rfl, b2⟩
 clear c_hX0 c_hX1 c_hX2 c_hX3 c_hX4 c_hX5 c_hX6 c_hX7 c_hX8 c_hX9 c_hX10 c_hX11 c_hX12
 have b02 := btr b01 b2 b01.size
 have hX_2 := hX_1.below b2 hX_1.lt
 clear hX_1
 have c_hX0 := hX_2.cell 0
 have c_hX1 := hX_2.cell 1
 have c_hX2 := hX_2.cell 2
 have c_hX3 := hX_2.cell 3
 have c_hX4 := hX_2.cell 4
 have c_hX5 := hX_2.cell 5
 have c_hX6 := hX_2.cell 6
 have c_hX7 := hX_2.cell 7
 have c_hX8 := hX_2.cell 8
 have c_hX9 := hX_2.cell 9
 have c_hX10 := hX_2.cell 10
 have c_hX11 := hX_2.cell 11
 have c_hX12 := hX_2.cell 12
 go_wp2_with fail
 refine (HN2.out _).mono ?_
 rintro _ w3 ⟨rfl, b3⟩
 clear c_hX0 c_hX1 c_hX2 c_hX3 c_hX4 c_hX5 c_hX6 c_hX7 c_hX8 c_hX9 c_hX10 c_hX11 c_hX12
 have b03 := btr b02 b3 b02.size
 have hX_3 := hX_2.below b3 hX_2.lt
 clear hX_2
 have c_hX0 := hX_3.cell 0
 have c_hX1 := hX_3.cell 1
 have c_hX2 := hX_3.cell 2
 have c_hX3 := hX_3.cell 3
 have c_hX4 := hX_3.cell 4
 have c_hX5 := hX_3.cell 5
 have c_hX6 := hX_3.cell 6
 have c_hX7 := hX_3.cell 7
 have c_hX8 := hX_3.cell 8
 have c_hX9 := hX_3.cell 9
 have c_hX10 := hX_3.cell 10
 have c_hX11 := hX_3.cell 11
 have c_hX12 := hX_3.cell 12
 go_upto_region 4 with fail
 obtain ⟨w4, hw4, hL, b4⟩ := box1c w3 #[.slice Ag ng cg, .int .i64 o, .slice A n c, .int .u32 nx, .int .i64 md, .int .i64 pf, .bool at_, .bool ha, .int .u32 gs, .int .u32 ga, .slice A1 n1 c1, .slice A2 n2 c2, .slice An nn cn] 77
 try rw [hw4]
 obtain ⟨ql, hql⟩ : ∃ x, w3.heap.size = x := ⟨_, rfl⟩
 try rw [hql]
 rw [hql] at hL
 have hlq : q < ql := by have := hX_3.lt; omega
 have hlw : w.heap.size ≤ ql := by have := b03.size; omega
 have hqw : w.heap.size ≤ q := hqz
 clear c_hX0 c_hX1 c_hX2 c_hX3 c_hX4 c_hX5 c_hX6 c_hX7 c_hX8 c_hX9 c_hX10 c_hX11 c_hX12
 have b04 := btr b03 b4 b03.size
 have hX_4 := hX_3.below b4 hX_3.lt
 clear hX_3
 have c_hX0 := hX_4.cell 0
 have c_hX1 := hX_4.cell 1
 have c_hX2 := hX_4.cell 2
 have c_hX3 := hX_4.cell 3
 have c_hX4 := hX_4.cell 4
 have c_hX5 := hX_4.cell 5
 have c_hX6 := hX_4.cell 6
 have c_hX7 := hX_4.cell 7
 have c_hX8 := hX_4.cell 8
 have c_hX9 := hX_4.cell 9
 have c_hX10 := hX_4.cell 10
 have c_hX11 := hX_4.cell 11
 have c_hX12 := hX_4.cell 12
 clear hw4 hql
 obtain ⟨Bz, hBz⟩ : ∃ x, w4.heap.size = x := ⟨_, rfl⟩
 have hqB : ql < Bz := by have := hL.lt; omega
 have HBz := Lib.hid hBz
 clear hBz
 have X4 := hX_4
 have b04' := b04
 clear c_hX0 c_hX1 c_hX2 c_hX3 c_hX4 c_hX5 c_hX6 c_hX7 c_hX8 c_hX9 c_hX10 c_hX11 c_hX12
 go_wp2_with fail
 go_loopw [6, 7, 8] (fun g6 g7 i wr => ∃ (iN : Nat) (z : Bool) (G N dG dN : List Pfx) (Ag' : Option Addr) (ng' cg' : Nat) (An' : Option Addr) (nn' cn' : Nat) (A6 : Option Addr) (n6 c6 : Nat) (A7 : Option Addr) (n7 c7 : Nat), i = .int .i64 iN ∧ g6 = .slice A6 n6 c6 ∧ g7 = .slice A7 n7 c7 ∧ Blk wr ql 77 (flC z Ag' ng' cg' o A n c nx md pf at_ ha gs ga A1 n1 c1 A2 n2 c2 An' nn' cn') ∧ Blk wr q 77 #[.slice Ag ng cg, .int .i64 o, .slice A n c, .int .u32 nx, .int .i64 md, .int .i64 pf, .bool at_, .bool ha, .int .u32 gs, .int .u32 ga, .slice A1 n1 c1, .slice A2 n2 c2, .slice An nn cn] ∧ DL rPfx 2 wr (Lt w.heap.size) Ag' ng' G ∧ DL rPfx 2 wr (Lt w.heap.size) An' nn' N ∧ (ng' ≤ cg' ∧ nn' ≤ cn') ∧ OX wr Bz A6 n6 c6 dG ∧ OX wr Bz A7 n7 c7 dN ∧ (∀ k, Value.ownBlock (.slice A6 n6 c6) = some k → Value.ownBlock (.slice A7 n7 c7) ≠ some k) ∧ Below w.heap.size w wr ∧ Hid (dG ++ G = gone ∧ dN ++ N = news ∧ (z = true → N = []) ∧ iN + ng' + nn' ≤ 120 ∧ Bz ≤ wr.heap.size)) (fun _ _ i _ => 130 - (intOf i).toNat)
 case atStart => exact ⟨0, false, gone, news, [], [], Ag, ng, cg, An, nn, cn, none, 0, 0, none, 0, 0, rfl, rfl, rfl, hL, X4, hg.below rPfx_ok b04', hm.below rPfx_ok b04', HCAP.out, OX.nil_, OX.nil_, (fun k hk => by cases hk), b04', Lib.hid ⟨rfl, rfl, (fun h => by cases h), by have := HG60.out; omega, by rw [HBz.out]; exact Nat.le_refl _⟩⟩
 case round =>
  obtain ⟨iN, z, G, N, dG, dN, Ag', ng', cg', An', nn', cn', A6, n6, c6, A7, n7, c7, rfl, rfl, rfl, hLb, hXb, hG, hN, hcp, oG, oN, hsep, hb, HI⟩ := hrel
  have HGL := Lib.hid hG.len
  have HNL := Lib.hid hN.len
  have hi1 : iN ≤ 120 := by have := HI.out.2.2.2.1; omega
  have HI1 := Lib.hid hi1
  have ti : decide ((iN : Int) < 130) = true := decide_eq_true (by omega)
  have ti2 : decide (iN < 130) = true := decide_eq_true (by omega)
  have hn1 : ng' ≤ 120 := by have := HI.out.2.2.2.1; omega
  have hn2 : nn' ≤ 120 := by have := HI.out.2.2.2.1; omega
  have wi : IntKind.i64.wrap ((iN : Int) + 1) = (iN : Int) + 1 := IntWalk.i64_in _ ⟨by omega, by omega⟩
  have wgn : IntKind.i64.wrap ((ng' : Int) + (nn' : Int)) = (ng' : Int) + (nn' : Int) := IntWalk.i64_in _ ⟨by omega, by omega⟩
  have l0 : wr.cell? ⟨ql, 0, none⟩ = some (.slice Ag' ng' cg') := (hLb.cell 0).trans (flC_0 ..)
  have l12 : wr.cell? ⟨ql, 12, none⟩ = some (.slice An' nn' cn') := (hLb.cell 12).trans (flC_12 ..)
  have hgr : DL rPfx 2 wr (Lo wr) Ag ng gone := hg.pfxB5 hb
  clear hi1
  by_cases h0 : ng' + nn' = 0
  ·have t0 : decide ((0 : Int) < (ng' : Int) + (nn' : Int)) = false := decide_eq_false (by omega)
   have t1 : decide (0 < ng' + nn') = false := decide_eq_false (by omega)
   have eG : dG = gone := by
    have h := HI.out.1
    rw [List.eq_nil_of_length_eq_zero (show G.length = 0 by have := HGL.out; omega), List.append_nil] at h
    exact h
   have eN : dN = news := by
    have h := HI.out.2.1
    rw [List.eq_nil_of_length_eq_zero (show N.length = 0 by have := HNL.out; omega), List.append_nil] at h
    exact h
   have dlG := oG.dl (S := Lo wr) (fun b _ h => h)
   have dlN := oN.dl (S := Lo wr) (fun b _ h => h)
   rw [eG] at dlG
   rw [eN] at dlN
   have e6 : n6 = ng := dlG.len.trans hg.len.symm
   have e7 : n7 = nn := dlN.len.trans hm.len.symm
   have HSa := Lib.hid (show ∀ w', DL rPfx 2 w' (Lo w') A6 n6 gone → DL rPfx 2 w' (Lo w') Ag ng gone → Calls Tryz.prog 44 #[.slice A6 n6 c6, .slice Ag ng cg] w' fun en w'' => en = .returned (.bool true) ∧ Below w'.heap.size w' w'' from fun w' h1 h2 => by rw [e6] at h1 ⊢; exact refSame02 A6 Ag ng c6 cg gone w' h1 h2 (by have := HG60.out; omega))
   have HSb := Lib.hid (show ∀ w', DL rPfx 2 w' (Lo w') A7 n7 news → DL rPfx 2 w' (Lo w') An nn news → Calls Tryz.prog 44 #[.slice A7 n7 c7, .slice An nn cn] w' fun en w'' => en = .returned (.bool true) ∧ Below w'.heap.size w' w'' from fun w' h1 h2 => by rw [e7] at h1 ⊢; exact refSame02 A7 An nn c7 cn news w' h1 h2 (by have := HG60.out; omega))
   clear e6 e7 eG eN h0 hn1 hn2
   have c_hXb0 := hXb.cell 0
   have c_hXb12 := hXb.cell 12
   go_wp2_with fail
   refine (HSa.out _ dlG (hg.pfxB5 hb)).mono ?_
   rintro _ w5 ⟨rfl, b5⟩
   clear c_hXb0 c_hXb12
   have b05 := btr hb b5 hb.size
   have hXb_5 := hXb.below b5 hXb.lt
   have c_hXb0 := hXb_5.cell 0
   have c_hXb12 := hXb_5.cell 12
   go_wp2_with fail
   refine (HSb.out _ ((dlN.pfxB5 b5)) (hm.pfxB5 b05)).mono ?_
   rintro _ w6 ⟨rfl, b6⟩
   clear c_hXb0 c_hXb12
   have b06 := btr b05 b6 b05.size
   have hXb_6 := hXb_5.below b6 hXb_5.lt
   clear hXb_5
   have c_hXb0 := hXb_6.cell 0
   have c_hXb12 := hXb_6.cell 12
   go_wp2_with fail
   refine (HAW.out _ (ht.call b06)).mono ?_
   rintro _ w7 ⟨rfl, b7⟩
   clear c_hXb0 c_hXb12
   have b07 := btr b06 b7 b06.size
   have hXb_7 := hXb_6.below b7 hXb_6.lt
   clear hXb_6
   have c_hXb0 := hXb_7.cell 0
   have c_hXb12 := hXb_7.cell 12
   go_wp2_with fail
   go_ret
   exact ⟨rfl, b07⟩
  ·skip
   have t0 : decide ((0 : Int) < (ng' : Int) + (nn' : Int)) = true := decide_eq_true (by omega)
   have t1 : decide (0 < ng' + nn') = true := decide_eq_true (by omega)
   have wr1 : IntKind.i64.wrap r8 = r8 := IntWalk.i64_in _ ⟨by have := HR8.out; omega, by have := HR8.out; omega⟩
   have wr2 : IntKind.i64.wrap (900 + r8) = 900 + r8 := IntWalk.i64_in _ ⟨by have := HR8.out; omega, by have := HR8.out; omega⟩
   have HFL := Lib.hid (show Calls Tryz.prog 43 #[.agg (flC z Ag' ng' cg' o A n c nx md pf at_ ha gs ga A1 n1 c1 A2 n2 c2 An' nn' cn'), .bool true, .int .i64 (900 + r8)] wr (RetFlow wr (Lt w.heap.size) (updOk ⟨G, zAt z (⟨o, path, nx, md, pf, at_, ha, gs, ga, comms, raws⟩ : At), N⟩) G N o A n c nx md pf at_ ha gs ga A1 n1 c1 A2 n2 c2) from
    updFlow z Ag' ng' cg' G o A n c path nx md pf at_ ha gs ga A1 n1 c1 comms A2 n2 c2 raws An' nn' cn' N (900 + r8) wr (Lt w.heap.size) (fun b h => Nat.lt_of_lt_of_le h hb.size) hG (hp.segB5 hb) (hc.numB5 hb) (hd.rawB5 hb) hN HS (Lib.hid HW4.out) ⟨HZZ.out.1, HZZ.out.2.1, by omega, by omega⟩ (ht.call hb) hcp ⟨by have := HR8.out; omega, by have := HR8.out; omega⟩ HRA.out HNB.out HWF.out HI.out.2.2.1 (by have := HGL.out; have := HNL.out; omega))
   clear h0 hn1 hn2
   go_upto_region 8 with fail
   refine wp_region_lit ?_
   refine wpList_load_row rfl 77 (.tmp 5) rfl ql (by rfl) 77 (flC z Ag' ng' cg' o A n c nx md pf at_ ha gs ga A1 n1 c1 A2 n2 c2 An' nn' cn') (0, 0) _ hLb Tryz.underlying77 rfl (flC_size ..) ?_
   go_wp2_with fail
   refine HFL.out.mono ?_
   rintro e5 w5 hfl
   have hXl := hXb.lt
   have hLl := hLb.lt
   rcases hfl with ⟨x, rfl, hx, b5⟩ | ⟨bs, z', xG, G', xN, N', xa, hfo, hrd, hbl, eG, eN, hpos, hz'⟩
   ·have hX5 := hXb.below b5 hXl
    have bw5 := btr hb b5 hb.size
    have hxx : (x == 4 || x2 == 1) = true ∧ x ≠ 0 := by
     rcases hx with rfl | ⟨rfl, hok⟩
     ·exact ⟨rfl, by decide⟩
     ·refine ⟨?_, by decide⟩
      have h1 : updOk (⟨gone, ⟨o, path, nx, md, pf, at_, ha, gs, ga, comms, raws⟩, news⟩ : Upd) = false := by
       cases hk : updOk (⟨gone, ⟨o, path, nx, md, pf, at_, ha, gs, ga, comms, raws⟩, news⟩ : Upd)
       ·rfl
       ·rw [← HI.out.1, ← HI.out.2.1] at hk
        rw [updOk_left hk HI.out.2.2.1] at hok
        cases hok
      rw [HX2.out h1]
      rfl
    have tx0 : (x != 0) = true := by simpa using hxx.2
    have HXX := Lib.hid hxx.1
    clear hx hxx
    go_upto_region 9 with fail
    obtain ⟨w6, hw6, hR6, b6⟩ := box1c w5 #[.slice none 0 0, .int .i64 0, .slice none 0 0, .int .u32 0, .int .i64 0, .int .i64 0, .bool false, .bool false, .int .u32 0, .int .u32 0, .slice none 0 0, .slice none 0 0, .slice none 0 0] 77
    try rw [hw6]
    have b06 := btr bw5 b6 bw5.size
    have hX5_6 := hX5.below b6 hX5.lt
    clear hw6 hR6
    have c_hX50 := hX5_6.cell 0
    have c_hX51 := hX5_6.cell 1
    have c_hX52 := hX5_6.cell 2
    have c_hX53 := hX5_6.cell 3
    have c_hX54 := hX5_6.cell 4
    have c_hX55 := hX5_6.cell 5
    have c_hX56 := hX5_6.cell 6
    have c_hX57 := hX5_6.cell 7
    have c_hX58 := hX5_6.cell 8
    have c_hX59 := hX5_6.cell 9
    have c_hX510 := hX5_6.cell 10
    have c_hX511 := hX5_6.cell 11
    have c_hX512 := hX5_6.cell 12
    go_wp2_with fail
    refine (HP2.out _ (hg.pfxB5 b06) (hp.segB5 b06) (hc.numB5 b06) (hd.rawB5 b06) (hm.pfxB5 b06)).mono ?_
    rintro _ w7 ⟨A9, n9, c9, rfl, o9, b7⟩
    clear c_hX50 c_hX51 c_hX52 c_hX53 c_hX54 c_hX55 c_hX56 c_hX57 c_hX58 c_hX59 c_hX510 c_hX511 c_hX512
    have b07 := btr b06 b7 b06.size
    have hX5_7 := hX5_6.below b7 hX5_6.lt
    clear hX5_6
    have c_hX50 := hX5_7.cell 0
    have c_hX51 := hX5_7.cell 1
    have c_hX52 := hX5_7.cell 2
    have c_hX53 := hX5_7.cell 3
    have c_hX54 := hX5_7.cell 4
    have c_hX55 := hX5_7.cell 5
    have c_hX56 := hX5_7.cell 6
    have c_hX57 := hX5_7.cell 7
    have c_hX58 := hX5_7.cell 8
    have c_hX59 := hX5_7.cell 9
    have c_hX510 := hX5_7.cell 10
    have c_hX511 := hX5_7.cell 11
    have c_hX512 := hX5_7.cell 12
    clear c_hX50 c_hX51 c_hX52 c_hX53 c_hX54 c_hX55 c_hX56 c_hX57 c_hX58 c_hX59 c_hX510 c_hX511 c_hX512
    cases tx4 : (x == 4)
    ·have tx2 : (x2 == 1) = true := by have := HXX.out; rw [tx4] at this; simpa using this
     go_wp2_with fail
     refine (HAW.out _ (ht.call b07)).mono ?_
     rintro _ w8 ⟨rfl, b8⟩
     have b08 := btr b07 b8 b07.size
     have hX5_8 := hX5_7.below b8 hX5_7.lt
     clear hX5_7
     go_wp2_with fail
     go_ret
     exact ⟨rfl, b08⟩
    ·go_wp2_with fail
     refine (HAW.out _ (ht.call b07)).mono ?_
     rintro _ w8 ⟨rfl, b8⟩
     have b08 := btr b07 b8 b07.size
     have hX5_8 := hX5_7.below b8 hX5_7.lt
     clear hX5_7
     go_wp2_with fail
     go_ret
     exact ⟨rfl, b08⟩
   obtain ⟨Ab, nb, cb, Ag2, ng2, cg2, An2, nn2, cn2, rfl, sb, hG2, hN2, hcp2, b5⟩ := hfo
   have bw5 := btr hb b5 hb.size
   have hX5 := hXb.below b5 hXl
   have hL5 := hLb.below b5 hLl
   have oG5 := oG.call b5
   have oN5 := oN.call b5
   have hnb := Lib.hid sb.len
   have h6B : ∀ k, Value.ownBlock (.slice A6 n6 c6) = some k → Bz ≤ k ∧ k < w5.heap.size := fun k hk => oG5.2.1.lt k hk
   have h7B : ∀ k, Value.ownBlock (.slice A7 n7 c7) = some k → Bz ≤ k ∧ k < w5.heap.size := fun k hk => oN5.2.1.lt k hk
   have H6B := Lib.hid h6B
   have H7B := Lib.hid h7B
   have HSEP := Lib.hid hsep
   have HEG := Lib.hid eG
   have HEN := Lib.hid eN
   have HPOS := Lib.hid hpos
   have HZ' := Lib.hid hz'
   have HHI := HI
   have HBL := Lib.hid hbl
   have HRDD := Lib.hid hrd
   have hXl5 := hX5.lt
   have hLl5 := hL5.lt
   have HCP2 := Lib.hid hcp2
   have LGN := Lib.hid (show G.length = ng' ∧ N.length = nn' from ⟨HGL.out.symm, HNL.out.symm⟩)
   clear HFL t0 t1 l0 l12 hgr wgn h6B h7B hsep eG eN hpos hz' hbl hrd hcp2 hG hN hcp oG oN HGL HNL
   cases z'
   case true =>
    skip
    rw [show flC true Ag2 ng2 cg2 o A n c nx md pf at_ ha gs ga A1 n1 c1 A2 n2 c2 An2 nn2 cn2 = #[.slice Ag2 ng2 cg2, .int .i64 0, .slice none 0 0, .int .u32 0, .int .i64 0, .int .i64 0, .bool false, .bool false, .int .u32 0, .int .u32 0, .slice none 0 0, .slice none 0 0, .slice An2 nn2 cn2] from rfl]
    go_upto_region 9 with fail
    obtain ⟨w6, hw6, hR6, b6⟩ := box1c w5 #[.slice Ag2 ng2 cg2, .int .i64 0, .slice none 0 0, .int .u32 0, .int .i64 0, .int .i64 0, .bool false, .bool false, .int .u32 0, .int .u32 0, .slice none 0 0, .slice none 0 0, .slice An2 nn2 cn2] 77
    try rw [hw6]
    obtain ⟨qr, hqr⟩ : ∃ x, w5.heap.size = x := ⟨_, rfl⟩
    try rw [hqr]
    rw [hqr] at hR6
    have hRl := hR6.lt
    have z6 := b6.size
    have HQR := Lib.hid hqr
    have hX6 := hX5.below b6 hXl5
    have hL6 := hL5.below b6 hLl5
    have oG6 := oG5.call b6
    have oN6 := oN5.call b6
    have sb6 := sb.call b6
    have bw6 := btr bw5 b6 bw5.size
    have cF6 := b6.mono bw5.size
    have hq5 : q < qr := by omega
    have hl5 : ql < qr := by omega
    clear hw6 hqr
    have hexm : ∀ x ∈ (ql :: q :: qr :: ((Value.ownBlock (.slice A6 n6 c6)).toList ++ (Value.ownBlock (.slice A7 n7 c7)).toList)), x < w6.heap.size := fun x hx => by
     simp only [List.mem_cons, List.mem_append, Option.mem_toList] at hx
     rcases hx with rfl | rfl | rfl | hx | hx
     ·omega
     ·omega
     ·omega
     ·have := (H6B.out x hx).2; omega
     ·have := (H7B.out x hx).2; omega
    have HRR := Lib.hid (show Calls Tryz.prog 40 #[.slice Ab nb cb, .bool true, .bool false, .int .u32 0] w6 (RetUX w6 (ql :: q :: qr :: ((Value.ownBlock (.slice A6 n6 c6)).toList ++ (Value.ownBlock (.slice A7 n7 c7)).toList)) (.ok ⟨xG, xa, xN⟩)) by rw [← HRDD.out]; exact updReadX (ql :: q :: qr :: ((Value.ownBlock (.slice A6 n6 c6)).toList ++ (Value.ownBlock (.slice A7 n7 c7)).toList)) Ab nb cb bs true false 0 w6 hexm sb6 (by have := hnb.out; have := HBL.out; omega) (ht.call bw6))
    clear hexm sb6
    go_wp2_with fail
    refine HRR.out.mono ?_
    rintro _ w7 ⟨b7, hm7⟩
    obtain ⟨Agx, ngx, cgx, Ax, px, qx0, Bx, mx, ex0, Cx, rx, fx, Anx, nnx, cnx, rfl, d1, d2, d3, d4, d5, hbd⟩ := hm7
    simp only at d1 d5
    clear d2 d3 d4 hbd
    simp only
    have bw7 := btr bw6 b7 bw6.size
    have cF7 := cF6.trans (b7.mono bw6.size)
    go_upto_region 13 with fail
    obtain ⟨w8, hw8, hV8, hF8, b8⟩ := boxes2 w7 #[.slice Agx ngx cgx, .int .i64 xa.origin, .slice Ax px qx0, .int .u32 xa.next, .int .i64 xa.med, .int .i64 xa.pref, .bool xa.atomic, .bool xa.hasAggr, .int .u32 xa.aggrAS, .int .u32 xa.aggrAddr, .slice Bx mx ex0, .slice Cx rx fx, .slice Anx nnx cnx] #[.int .i64 0, .int .i64 0, .slice none 0 0] 77 88
    try rw [hw8]
    obtain ⟨qx, hqx⟩ : ∃ x, w7.heap.size = x := ⟨_, rfl⟩
    try rw [hqx]
    obtain ⟨qf, hqf⟩ : ∃ x, qx + 1 = x := ⟨_, rfl⟩
    try rw [hqf]
    rw [hqx] at hV8 hF8
    rw [hqf] at hF8
    have z7 := b7.size
    have z8 := b8.size
    have hqx6 : w6.heap.size ≤ qx := by omega
    have HQX := Lib.hid hqx
    have d18 := d1.keep (S' := Ex w7 (ql :: q :: qr :: ((Value.ownBlock (.slice A6 n6 c6)).toList ++ (Value.ownBlock (.slice A7 n7 c7)).toList))) rPfx_ok (fun b hb => ⟨hb, b8.block b hb.1⟩ : Kp w7 w8 _ _)
    have d58 := d5.keep (S' := Ex w7 (ql :: q :: qr :: ((Value.ownBlock (.slice A6 n6 c6)).toList ++ (Value.ownBlock (.slice A7 n7 c7)).toList))) rPfx_ok (fun b hb => ⟨hb, b8.block b hb.1⟩ : Kp w7 w8 _ _)
    have hX8 := (hX6.below b7 hX6.lt).below b8 (by have := hX6.lt; omega)
    have hL8 := (hL6.below b7 hL6.lt).below b8 (by have := hL6.lt; omega)
    have hR8 := (hR6.below b7 hR6.lt).below b8 (by have := hR6.lt; omega)
    have oG8 := (oG6.call b7).call b8
    have oN8 := (oN6.call b7).call b8
    have bw8 := btr bw7 b8 bw7.size
    have cF8 := cF7.trans (b8.mono bw7.size)
    have hVl := hV8.lt
    clear hw8 hqx hqf d1 d5 hX6 hL6 hR6 oG6 oN6
    have f0 := hF8.cell 0
    have x0 := hV8.cell 0
    have x12 := hV8.cell 12
    have lg := Lib.hid d18.len
    have ln := Lib.hid d58.len
    have hlx := Lib.hid (show xG.length ≤ 60 ∧ xN.length ≤ 60 ∧ dG.length ≤ 60 ∧ dN.length ≤ 60 from by
     have h1 := congrArg List.length HHI.out.1
     have h2 := congrArg List.length HHI.out.2.1
     have h3 := congrArg List.length HEG.out
     have h4 := congrArg List.length HEN.out
     have h5 := hg.len
     have h6 := hm.len
     have h7 := HG60.out
     rw [List.length_append] at h1 h2 h3 h4
     omega)
    have wx : IntKind.i64.wrap ((ngx : Int) + (nnx : Int)) = (ngx : Int) + (nnx : Int) := IntWalk.i64_in _ ⟨by omega, by have := lg.out; have := ln.out; have := hlx.out; omega⟩
    have tx1 : ((ngx : Int) + (nnx : Int) == 0) = false := by have := lg.out; have := ln.out; have := HPOS.out; simp; omega
    have tx2 : (ngx + nnx == 0) = false := by have := lg.out; have := ln.out; have := HPOS.out; simp; omega
    go_upto_region 15 with fail
    rename_i hk15
    have HK15 := Lib.hid hk15
    clear hk15 f0 x0 x12 tx1 tx2 wx
    obtain ⟨wd, hwd⟩ : ∃ x, w8.drew = x := ⟨_, rfl⟩
    have bd := (Below.refl w8.heap.size w8).drew
    have hzd : wd.heap.size = w8.heap.size := by rw [← hwd]; rfl
    rw [hwd] at bd
    have HWD := Lib.hid hwd
    clear hwd
    have hVd := hV8.below bd hV8.lt
    have d1d := d18.keep (S' := Ex w7 (ql :: q :: qr :: ((Value.ownBlock (.slice A6 n6 c6)).toList ++ (Value.ownBlock (.slice A7 n7 c7)).toList))) rPfx_ok (fun b hb => ⟨hb, bd.block b (Nat.lt_of_lt_of_le hb.1 z8)⟩ : Kp w8 wd _ _)
    have d5d := d58.keep (S' := Ex w7 (ql :: q :: qr :: ((Value.ownBlock (.slice A6 n6 c6)).toList ++ (Value.ownBlock (.slice A7 n7 c7)).toList))) rPfx_ok (fun b hb => ⟨hb, bd.block b (Nat.lt_of_lt_of_le hb.1 z8)⟩ : Kp w8 wd _ _)
    have oGd := oG8.call bd
    have oNd := oN8.call bd
    have hXd := hX8.below bd hX8.lt
    have hLd := hL8.below bd hL8.lt
    have hRd := hR8.below bd hR8.lt
    have cFd := cF8.trans (bd.mono bw8.size)
    have hBd : Bz ≤ wd.heap.size := by have := HHI.out.2.2.2.2; have := b5.size; have := HQR.out; omega
    apply share
    case f =>
     intro HG0
     have HGG := Lib.hid HG0
     clear HG0
     refine wp_region_held_drew (S := (fun w' => Blk w' qx 77 #[.slice Agx ngx cgx, .int .i64 xa.origin, .slice Ax px qx0, .int .u32 xa.next, .int .i64 xa.med, .int .i64 xa.pref, .bool xa.atomic, .bool xa.hasAggr, .int .u32 xa.aggrAS, .int .u32 xa.aggrAddr, .slice Bx mx ex0, .slice Cx rx fx, .slice Anx nnx cnx])) (by kernel_rfl) ?_ (fun hHeld => ?_)
     ·rw [HWD.out]; exact hVd
     rw [HWD.out]
     rw [HWD.out] at hHeld
     refine tkh 0 (h := ?_)
     try simp only [Act.put, q1, q2, q3, q4, q5, q6]
     refine tkh 1 (h := ?_)
     try simp only [Act.put, q1, q2, q3, q4, q5, q6]
     refine tkh 4 (h := ?_)
     try simp only [Act.put, q1, q2, q3, q4, q5, q6]
     refine tkh 5 (h := ?_)
     try simp only [Act.put, q1, q2, q3, q4, q5, q6]
     refine wpAnyH_take (i := 2) (v := ?m5_v2) rfl (by kernel_rfl) (by kernel_rfl) (by kernel_rfl) (by intro _ _ _ h; exact h) (Or.inl ⟨by rfl, ?m5_hy2⟩) (by assumption) ?m5_rest2
     case m5_hy2 => (intro w hSw; (try dsimp only at hSw); have z0 := Blk.cell hSw 0; clear hSw; go_simp; try with_reducible rfl)
     try simp only [Act.put, q1, q2, q3, q4, q5, q6]
     refine wpAnyH_take (i := 6) (v := ?m6_v6) rfl (by kernel_rfl) (by kernel_rfl) (by kernel_rfl) (by intro _ _ _ h; exact h) (Or.inl ⟨by rfl, ?m6_hy6⟩) (by assumption) ?m6_rest6
     case m6_hy6 => (intro w hSw; (try dsimp only at hSw); have z12 := Blk.cell hSw 12; clear hSw; go_simp; try with_reducible rfl)
     try simp only [Act.put, q1, q2, q3, q4, q5, q6]
     refine tkr 3 fun K hK => ?_
     ·skip
      have hne : ∀ k, Value.ownBlock (.slice A7 n7 c7) = some k → Value.ownBlock (.slice A6 n6 c6) ≠ some k := fun k hk e => HSEP.out k e hk
      refine step_appX rfl (.tmp 91) (.tmp 93) rfl Bz A6 n6 c6 dG (by rfl) oGd wd.heap.size Agx ngx cgx xG (by rfl) (d1d.readsPx (fun b hb => Nat.lt_of_lt_of_le hb.1 (by have := bd.size; omega))) lg.out d1d.wfx (by have := hlx.out; omega) hBd ?_
      intro A8 n8 c8 w9 o8 g8 hat8
      have hV9 := hVd.grown g8 (fun e => by have := (H6B.out qx e.symm).2; have := HQR.out; omega)
      have z9 := g8.size
      have d59 := d5d.keep (S' := Ex w7 (ql :: q :: qr :: ((Value.ownBlock (.slice A6 n6 c6)).toList ++ (Value.ownBlock (.slice A7 n7 c7)).toList))) rPfx_ok (fun b hb => ⟨hb, g8.block b (Nat.lt_of_lt_of_le hb.1 (by have := bd.size; omega)) (fun e => hb.2 (by simp [← e]))⟩ : Kp wd w9 _ _)
      have oN9 := oNd.keep (fun k hk => g8.block k (oNd.2.1.lt k hk).2 (fun e => hne k hk e.symm))
      have hX9 := hXd.grown g8 (fun e => by have := (H6B.out q e.symm).1; omega)
      have hL9 := hLd.grown g8 (fun e => by have := (H6B.out ql e.symm).1; omega)
      have hR9 := hRd.grown g8 (fun e => by have := (H6B.out qr e.symm).2; have := HQR.out; omega)
      have cF9 := cFd.grown g8 (by have := bw8.size; have := bd.size; omega) (fun k hk => by have := (H6B.out k hk).1; omega)
      refine hK.out _ _ ?_ (fun hHeld => ?_)
      ·try dsimp only
       exact hV9
      clear hK K hHeld
      refine tkr 7 fun K hK => ?_
      refine step_appX rfl (.tmp 95) (.tmp 97) rfl Bz A7 n7 c7 dN (by rfl) oN9 w9.heap.size Anx nnx cnx xN (by rfl) (d59.readsPx (fun b hb => Nat.lt_of_lt_of_le hb.1 (by have := bd.size; omega))) ln.out d59.wfx (by have := hlx.out; omega) (by omega) ?_
      intro A9 n9 c9 w10 o9 g9 hat9
      have hV10 := hV9.grown g9 (fun e => by have := (H7B.out qx e.symm).2; have := HQR.out; omega)
      have h8lt : ∀ k, Value.ownBlock (.slice A8 n8 c8) = some k → k < w9.heap.size := fun k hk => (o8.2.1.lt k hk).2
      have h8ne : ∀ k, Value.ownBlock (.slice A8 n8 c8) = some k → Value.ownBlock (.slice A7 n7 c7) ≠ some k := fun k hk e => by
       rcases hat8 with h | h
       ·exact hne k e (h.symm.trans hk)
       ·have h2 := (H7B.out k e).2
        rw [hk] at h
        have h := Option.some.inj h
        have := bd.size
        have := HQR.out
        omega
      have o8x := o8.keep (fun k hk => g9.block k (h8lt k hk) (fun e => h8ne k hk e.symm))
      have hX10 := hX9.grown g9 (fun e => by have := (H7B.out q e.symm).1; omega)
      have hL10 := hL9.grown g9 (fun e => by have := (H7B.out ql e.symm).1; omega)
      have hR10 := hR9.grown g9 (fun e => by have := (H7B.out qr e.symm).2; have := HQR.out; omega)
      have cF10 := cF9.grown g9 (by have := cF9.size; have := bw5.size; omega) (fun k hk => by have := (H7B.out k hk).1; omega)
      have hsep9 : ∀ k, Value.ownBlock (.slice A8 n8 c8) = some k → Value.ownBlock (.slice A9 n9 c9) ≠ some k := fun k hk e => by
       rcases hat9 with h | h
       ·exact h8ne k hk (h.symm.trans e)
       ·rw [e] at h
        have h := Option.some.inj h
        have := h8lt k hk
        omega
      refine hK.out _ _ ?_ (fun hHeld => ?_)
      ·try dsimp only
       exact hV10
      clear hK K hHeld
      refine tkr 8 fun K hK => ?_
      go_simp
      go_wp2_with (fail)
      refine hK.out _ _ ?_ (fun hHeld => ?_)
      ·try dsimp only
       exact hV10
      clear hK K
      clear hHeld
      refine tkr 9 fun K hK => ?_
      go_simp
      go_wp2_with (fail)
      refine hK.out _ _ ?_ (fun hHeld => ?_)
      ·try dsimp only
       exact hV10
      clear hK K
      clear hHeld
      refine wpAnyH_done (by kernel_rfl) ?_ _
      have HH := Lib.hid (show OX w10 Bz A8 n8 c8 (dG ++ xG) ∧ OX w10 Bz A9 n9 c9 (dN ++ xN) ∧ (∀ k, Value.ownBlock (.slice A8 n8 c8) = some k → Value.ownBlock (.slice A9 n9 c9) ≠ some k) ∧ Blk w10 q 77 #[.slice Ag ng cg, .int .i64 o, .slice A n c, .int .u32 nx, .int .i64 md, .int .i64 pf, .bool at_, .bool ha, .int .u32 gs, .int .u32 ga, .slice A1 n1 c1, .slice A2 n2 c2, .slice An nn cn] ∧ Blk w10 ql 77 (flC z Ag' ng' cg' o A n c nx md pf at_ ha gs ga A1 n1 c1 A2 n2 c2 An' nn' cn') ∧ Blk w10 qr 77 #[.slice Ag2 ng2 cg2, .int .i64 0, .slice none 0 0, .int .u32 0, .int .i64 0, .int .i64 0, .bool false, .bool false, .int .u32 0, .int .u32 0, .slice none 0 0, .slice none 0 0, .slice An2 nn2 cn2] ∧ Below w.heap.size w5 w10 ∧ Bz ≤ w10.heap.size from ⟨o8x, o9, hsep9, hX10, hL10, hR10, cF10, by have := g9.size; omega⟩)
      clear hat8 hat9 o8 o9 o8x g9 hV10 h8lt h8ne hX10 hL10 hR10 cF10 hsep9
      revert A8 n8 c8 A9 n9 c9 w10 HH
      exact HGG.out
    intro A8 n8 c8 A9 n9 c9 w10 HH
    obtain ⟨o8x, o9, hsep9, hX10, hL10, hR10, cF10, hB10⟩ := HH.out
    refine HK15.out _ _ ?_
    refine wp_region_lit ?_
    refine wpList_load_row rfl 77 (.tmp 10) rfl qr (by rfl) 77 #[.slice Ag2 ng2 cg2, .int .i64 0, .slice none 0 0, .int .u32 0, .int .i64 0, .int .i64 0, .bool false, .bool false, .int .u32 0, .int .u32 0, .slice none 0 0, .slice none 0 0, .slice An2 nn2 cn2] (0, 0) _ hR10 Tryz.underlying77 rfl upd_info1 ?_
    refine wpList_store_row rfl 77 (.tmp 5) (.tmp 99) rfl ql #[.slice Ag2 ng2 cg2, .int .i64 0, .slice none 0 0, .int .u32 0, .int .i64 0, .int .i64 0, .bool false, .bool false, .int .u32 0, .int .u32 0, .slice none 0 0, .slice none 0 0, .slice An2 nn2 cn2] (by rfl) (by rfl) 77 _ hL10 upd_info1 (by cases z <;> rfl) (by kernel_rfl) ?_
    have gL := row_grown w10 ql #[.slice Ag2 ng2 cg2, .int .i64 0, .slice none 0 0, .int .u32 0, .int .i64 0, .int .i64 0, .bool false, .bool false, .int .u32 0, .int .u32 0, .slice none 0 0, .slice none 0 0, .slice An2 nn2 cn2]
    have cFF := cF10.grown gL (by have := cF10.size; have := bw5.size; omega) (fun k hk => by injection hk with hk; omega)
    have hLF := hL10.row #[.slice Ag2 ng2 cg2, .int .i64 0, .slice none 0 0, .int .u32 0, .int .i64 0, .int .i64 0, .bool false, .bool false, .int .u32 0, .int .u32 0, .slice none 0 0, .slice none 0 0, .slice An2 nn2 cn2]
    have hXF := hX10.rowFar (k := ql) (by omega) #[.slice Ag2 ng2 cg2, .int .i64 0, .slice none 0 0, .int .u32 0, .int .i64 0, .int .i64 0, .bool false, .bool false, .int .u32 0, .int .u32 0, .slice none 0 0, .slice none 0 0, .slice An2 nn2 cn2]
    have o8F := o8x.keep (w' := w10.setRow ql #[.slice Ag2 ng2 cg2, .int .i64 0, .slice none 0 0, .int .u32 0, .int .i64 0, .int .i64 0, .bool false, .bool false, .int .u32 0, .int .u32 0, .slice none 0 0, .slice none 0 0, .slice An2 nn2 cn2]) (fun k hk => row_far w10 ql #[.slice Ag2 ng2 cg2, .int .i64 0, .slice none 0 0, .int .u32 0, .int .i64 0, .int .i64 0, .bool false, .bool false, .int .u32 0, .int .u32 0, .slice none 0 0, .slice none 0 0, .slice An2 nn2 cn2] (by have := (o8x.2.1.lt k hk).1; omega))
    have o9F := o9.keep (w' := w10.setRow ql #[.slice Ag2 ng2 cg2, .int .i64 0, .slice none 0 0, .int .u32 0, .int .i64 0, .int .i64 0, .bool false, .bool false, .int .u32 0, .int .u32 0, .slice none 0 0, .slice none 0 0, .slice An2 nn2 cn2]) (fun k hk => row_far w10 ql #[.slice Ag2 ng2 cg2, .int .i64 0, .slice none 0 0, .int .u32 0, .int .i64 0, .int .i64 0, .bool false, .bool false, .int .u32 0, .int .u32 0, .slice none 0 0, .slice none 0 0, .slice An2 nn2 cn2] (by have := (o9.2.1.lt k hk).1; omega))
    obtain ⟨wf, hwf2⟩ : ∃ x, w10.setRow ql #[.slice Ag2 ng2 cg2, .int .i64 0, .slice none 0 0, .int .u32 0, .int .i64 0, .int .i64 0, .bool false, .bool false, .int .u32 0, .int .u32 0, .slice none 0 0, .slice none 0 0, .slice An2 nn2 cn2] = x := ⟨_, rfl⟩
    rw [hwf2] at cFF hLF hXF o8F o9F gL
    rw [hwf2]
    have hG2F := hG2.below rPfx_ok cFF
    have hN2F := hN2.below rPfx_ok cFF
    have bwF := bw5.trans cFF
    have zF := gL.size
    have HIF := Lib.hid (show (dG ++ xG) ++ G' = gone ∧ (dN ++ xN) ++ N' = news ∧ (true = true → N' = []) ∧ (iN + 1) + ng2 + nn2 ≤ 120 ∧ Bz ≤ wf.heap.size from by
     have h1 := HHI.out
     have h3 := congrArg List.length HEG.out
     have h4 := congrArg List.length HEN.out
     rw [List.length_append] at h3 h4
     have h5 := hG2.len
     have h6 := hN2.len
     have h7 := HPOS.out
     have h8 := LGN.out
     refine ⟨by rw [List.append_assoc, HEG.out]; exact h1.1, by rw [List.append_assoc, HEN.out]; exact h1.2.1, (fun h => by first | exact HZ'.out h | exact HZ'.out trivial), by omega, by have := gL.size; omega⟩)
    clear hwf2
    go_wp2_with fail
    go_roundw
    case rel => exact ⟨iN + 1, true, G', N', dG ++ xG, dN ++ xN, Ag2, ng2, cg2, An2, nn2, cn2, A8, n8, c8, A9, n9, c9, by go_num, rfl, rfl, hLF, hXF, hG2F, hN2F, HCP2.out, o8F, o9F, hsep9, bwF, HIF⟩
    case measure => simp [intOf]; have := HI1.out; omega
   case false =>
    skip
    rw [show flC false Ag2 ng2 cg2 o A n c nx md pf at_ ha gs ga A1 n1 c1 A2 n2 c2 An2 nn2 cn2 = #[.slice Ag2 ng2 cg2, .int .i64 o, .slice A n c, .int .u32 nx, .int .i64 md, .int .i64 pf, .bool at_, .bool ha, .int .u32 gs, .int .u32 ga, .slice A1 n1 c1, .slice A2 n2 c2, .slice An2 nn2 cn2] from rfl]
    go_upto_region 9 with fail
    obtain ⟨w6, hw6, hR6, b6⟩ := box1c w5 #[.slice Ag2 ng2 cg2, .int .i64 o, .slice A n c, .int .u32 nx, .int .i64 md, .int .i64 pf, .bool at_, .bool ha, .int .u32 gs, .int .u32 ga, .slice A1 n1 c1, .slice A2 n2 c2, .slice An2 nn2 cn2] 77
    try rw [hw6]
    obtain ⟨qr, hqr⟩ : ∃ x, w5.heap.size = x := ⟨_, rfl⟩
    try rw [hqr]
    rw [hqr] at hR6
    have hRl := hR6.lt
    have z6 := b6.size
    have HQR := Lib.hid hqr
    have hX6 := hX5.below b6 hXl5
    have hL6 := hL5.below b6 hLl5
    have oG6 := oG5.call b6
    have oN6 := oN5.call b6
    have sb6 := sb.call b6
    have bw6 := btr bw5 b6 bw5.size
    have cF6 := b6.mono bw5.size
    have hq5 : q < qr := by omega
    have hl5 : ql < qr := by omega
    clear hw6 hqr
    have hexm : ∀ x ∈ (ql :: q :: qr :: ((Value.ownBlock (.slice A6 n6 c6)).toList ++ (Value.ownBlock (.slice A7 n7 c7)).toList)), x < w6.heap.size := fun x hx => by
     simp only [List.mem_cons, List.mem_append, Option.mem_toList] at hx
     rcases hx with rfl | rfl | rfl | hx | hx
     ·omega
     ·omega
     ·omega
     ·have := (H6B.out x hx).2; omega
     ·have := (H7B.out x hx).2; omega
    have HRR := Lib.hid (show Calls Tryz.prog 40 #[.slice Ab nb cb, .bool true, .bool false, .int .u32 0] w6 (RetUX w6 (ql :: q :: qr :: ((Value.ownBlock (.slice A6 n6 c6)).toList ++ (Value.ownBlock (.slice A7 n7 c7)).toList)) (.ok ⟨xG, xa, xN⟩)) by rw [← HRDD.out]; exact updReadX (ql :: q :: qr :: ((Value.ownBlock (.slice A6 n6 c6)).toList ++ (Value.ownBlock (.slice A7 n7 c7)).toList)) Ab nb cb bs true false 0 w6 hexm sb6 (by have := hnb.out; have := HBL.out; omega) (ht.call bw6))
    clear hexm sb6
    go_wp2_with fail
    refine HRR.out.mono ?_
    rintro _ w7 ⟨b7, hm7⟩
    obtain ⟨Agx, ngx, cgx, Ax, px, qx0, Bx, mx, ex0, Cx, rx, fx, Anx, nnx, cnx, rfl, d1, d2, d3, d4, d5, hbd⟩ := hm7
    simp only at d1 d5
    clear d2 d3 d4 hbd
    simp only
    have bw7 := btr bw6 b7 bw6.size
    have cF7 := cF6.trans (b7.mono bw6.size)
    go_upto_region 13 with fail
    obtain ⟨w8, hw8, hV8, hF8, b8⟩ := boxes2 w7 #[.slice Agx ngx cgx, .int .i64 xa.origin, .slice Ax px qx0, .int .u32 xa.next, .int .i64 xa.med, .int .i64 xa.pref, .bool xa.atomic, .bool xa.hasAggr, .int .u32 xa.aggrAS, .int .u32 xa.aggrAddr, .slice Bx mx ex0, .slice Cx rx fx, .slice Anx nnx cnx] #[.int .i64 0, .int .i64 0, .slice none 0 0] 77 88
    try rw [hw8]
    obtain ⟨qx, hqx⟩ : ∃ x, w7.heap.size = x := ⟨_, rfl⟩
    try rw [hqx]
    obtain ⟨qf, hqf⟩ : ∃ x, qx + 1 = x := ⟨_, rfl⟩
    try rw [hqf]
    rw [hqx] at hV8 hF8
    rw [hqf] at hF8
    have z7 := b7.size
    have z8 := b8.size
    have hqx6 : w6.heap.size ≤ qx := by omega
    have HQX := Lib.hid hqx
    have d18 := d1.keep (S' := Ex w7 (ql :: q :: qr :: ((Value.ownBlock (.slice A6 n6 c6)).toList ++ (Value.ownBlock (.slice A7 n7 c7)).toList))) rPfx_ok (fun b hb => ⟨hb, b8.block b hb.1⟩ : Kp w7 w8 _ _)
    have d58 := d5.keep (S' := Ex w7 (ql :: q :: qr :: ((Value.ownBlock (.slice A6 n6 c6)).toList ++ (Value.ownBlock (.slice A7 n7 c7)).toList))) rPfx_ok (fun b hb => ⟨hb, b8.block b hb.1⟩ : Kp w7 w8 _ _)
    have hX8 := (hX6.below b7 hX6.lt).below b8 (by have := hX6.lt; omega)
    have hL8 := (hL6.below b7 hL6.lt).below b8 (by have := hL6.lt; omega)
    have hR8 := (hR6.below b7 hR6.lt).below b8 (by have := hR6.lt; omega)
    have oG8 := (oG6.call b7).call b8
    have oN8 := (oN6.call b7).call b8
    have bw8 := btr bw7 b8 bw7.size
    have cF8 := cF7.trans (b8.mono bw7.size)
    have hVl := hV8.lt
    clear hw8 hqx hqf d1 d5 hX6 hL6 hR6 oG6 oN6
    have f0 := hF8.cell 0
    have x0 := hV8.cell 0
    have x12 := hV8.cell 12
    have lg := Lib.hid d18.len
    have ln := Lib.hid d58.len
    have hlx := Lib.hid (show xG.length ≤ 60 ∧ xN.length ≤ 60 ∧ dG.length ≤ 60 ∧ dN.length ≤ 60 from by
     have h1 := congrArg List.length HHI.out.1
     have h2 := congrArg List.length HHI.out.2.1
     have h3 := congrArg List.length HEG.out
     have h4 := congrArg List.length HEN.out
     have h5 := hg.len
     have h6 := hm.len
     have h7 := HG60.out
     rw [List.length_append] at h1 h2 h3 h4
     omega)
    have wx : IntKind.i64.wrap ((ngx : Int) + (nnx : Int)) = (ngx : Int) + (nnx : Int) := IntWalk.i64_in _ ⟨by omega, by have := lg.out; have := ln.out; have := hlx.out; omega⟩
    have tx1 : ((ngx : Int) + (nnx : Int) == 0) = false := by have := lg.out; have := ln.out; have := HPOS.out; simp; omega
    have tx2 : (ngx + nnx == 0) = false := by have := lg.out; have := ln.out; have := HPOS.out; simp; omega
    go_upto_region 15 with fail
    rename_i hk15
    have HK15 := Lib.hid hk15
    clear hk15 f0 x0 x12 tx1 tx2 wx
    obtain ⟨wd, hwd⟩ : ∃ x, w8.drew = x := ⟨_, rfl⟩
    have bd := (Below.refl w8.heap.size w8).drew
    have hzd : wd.heap.size = w8.heap.size := by rw [← hwd]; rfl
    rw [hwd] at bd
    have HWD := Lib.hid hwd
    clear hwd
    have hVd := hV8.below bd hV8.lt
    have d1d := d18.keep (S' := Ex w7 (ql :: q :: qr :: ((Value.ownBlock (.slice A6 n6 c6)).toList ++ (Value.ownBlock (.slice A7 n7 c7)).toList))) rPfx_ok (fun b hb => ⟨hb, bd.block b (Nat.lt_of_lt_of_le hb.1 z8)⟩ : Kp w8 wd _ _)
    have d5d := d58.keep (S' := Ex w7 (ql :: q :: qr :: ((Value.ownBlock (.slice A6 n6 c6)).toList ++ (Value.ownBlock (.slice A7 n7 c7)).toList))) rPfx_ok (fun b hb => ⟨hb, bd.block b (Nat.lt_of_lt_of_le hb.1 z8)⟩ : Kp w8 wd _ _)
    have oGd := oG8.call bd
    have oNd := oN8.call bd
    have hXd := hX8.below bd hX8.lt
    have hLd := hL8.below bd hL8.lt
    have hRd := hR8.below bd hR8.lt
    have cFd := cF8.trans (bd.mono bw8.size)
    have hBd : Bz ≤ wd.heap.size := by have := HHI.out.2.2.2.2; have := b5.size; have := HQR.out; omega
    apply share
    case f =>
     intro HG0
     have HGG := Lib.hid HG0
     clear HG0
     refine wp_region_held_drew (S := (fun w' => Blk w' qx 77 #[.slice Agx ngx cgx, .int .i64 xa.origin, .slice Ax px qx0, .int .u32 xa.next, .int .i64 xa.med, .int .i64 xa.pref, .bool xa.atomic, .bool xa.hasAggr, .int .u32 xa.aggrAS, .int .u32 xa.aggrAddr, .slice Bx mx ex0, .slice Cx rx fx, .slice Anx nnx cnx])) (by kernel_rfl) ?_ (fun hHeld => ?_)
     ·rw [HWD.out]; exact hVd
     rw [HWD.out]
     rw [HWD.out] at hHeld
     refine tkh 0 (h := ?_)
     try simp only [Act.put, q1, q2, q3, q4, q5, q6]
     refine tkh 1 (h := ?_)
     try simp only [Act.put, q1, q2, q3, q4, q5, q6]
     refine tkh 4 (h := ?_)
     try simp only [Act.put, q1, q2, q3, q4, q5, q6]
     refine tkh 5 (h := ?_)
     try simp only [Act.put, q1, q2, q3, q4, q5, q6]
     refine wpAnyH_take (i := 2) (v := ?m11_v2) rfl (by kernel_rfl) (by kernel_rfl) (by kernel_rfl) (by intro _ _ _ h; exact h) (Or.inl ⟨by rfl, ?m11_hy2⟩) (by assumption) ?m11_rest2
     case m11_hy2 => (intro w hSw; (try dsimp only at hSw); have z0 := Blk.cell hSw 0; clear hSw; go_simp; try with_reducible rfl)
     try simp only [Act.put, q1, q2, q3, q4, q5, q6]
     refine wpAnyH_take (i := 6) (v := ?m12_v6) rfl (by kernel_rfl) (by kernel_rfl) (by kernel_rfl) (by intro _ _ _ h; exact h) (Or.inl ⟨by rfl, ?m12_hy6⟩) (by assumption) ?m12_rest6
     case m12_hy6 => (intro w hSw; (try dsimp only at hSw); have z12 := Blk.cell hSw 12; clear hSw; go_simp; try with_reducible rfl)
     try simp only [Act.put, q1, q2, q3, q4, q5, q6]
     refine tkr 3 fun K hK => ?_
     ·skip
      have hne : ∀ k, Value.ownBlock (.slice A7 n7 c7) = some k → Value.ownBlock (.slice A6 n6 c6) ≠ some k := fun k hk e => HSEP.out k e hk
      refine step_appX rfl (.tmp 91) (.tmp 93) rfl Bz A6 n6 c6 dG (by rfl) oGd wd.heap.size Agx ngx cgx xG (by rfl) (d1d.readsPx (fun b hb => Nat.lt_of_lt_of_le hb.1 (by have := bd.size; omega))) lg.out d1d.wfx (by have := hlx.out; omega) hBd ?_
      intro A8 n8 c8 w9 o8 g8 hat8
      have hV9 := hVd.grown g8 (fun e => by have := (H6B.out qx e.symm).2; have := HQR.out; omega)
      have z9 := g8.size
      have d59 := d5d.keep (S' := Ex w7 (ql :: q :: qr :: ((Value.ownBlock (.slice A6 n6 c6)).toList ++ (Value.ownBlock (.slice A7 n7 c7)).toList))) rPfx_ok (fun b hb => ⟨hb, g8.block b (Nat.lt_of_lt_of_le hb.1 (by have := bd.size; omega)) (fun e => hb.2 (by simp [← e]))⟩ : Kp wd w9 _ _)
      have oN9 := oNd.keep (fun k hk => g8.block k (oNd.2.1.lt k hk).2 (fun e => hne k hk e.symm))
      have hX9 := hXd.grown g8 (fun e => by have := (H6B.out q e.symm).1; omega)
      have hL9 := hLd.grown g8 (fun e => by have := (H6B.out ql e.symm).1; omega)
      have hR9 := hRd.grown g8 (fun e => by have := (H6B.out qr e.symm).2; have := HQR.out; omega)
      have cF9 := cFd.grown g8 (by have := bw8.size; have := bd.size; omega) (fun k hk => by have := (H6B.out k hk).1; omega)
      refine hK.out _ _ ?_ (fun hHeld => ?_)
      ·try dsimp only
       exact hV9
      clear hK K hHeld
      refine tkr 7 fun K hK => ?_
      refine step_appX rfl (.tmp 95) (.tmp 97) rfl Bz A7 n7 c7 dN (by rfl) oN9 w9.heap.size Anx nnx cnx xN (by rfl) (d59.readsPx (fun b hb => Nat.lt_of_lt_of_le hb.1 (by have := bd.size; omega))) ln.out d59.wfx (by have := hlx.out; omega) (by omega) ?_
      intro A9 n9 c9 w10 o9 g9 hat9
      have hV10 := hV9.grown g9 (fun e => by have := (H7B.out qx e.symm).2; have := HQR.out; omega)
      have h8lt : ∀ k, Value.ownBlock (.slice A8 n8 c8) = some k → k < w9.heap.size := fun k hk => (o8.2.1.lt k hk).2
      have h8ne : ∀ k, Value.ownBlock (.slice A8 n8 c8) = some k → Value.ownBlock (.slice A7 n7 c7) ≠ some k := fun k hk e => by
       rcases hat8 with h | h
       ·exact hne k e (h.symm.trans hk)
       ·have h2 := (H7B.out k e).2
        rw [hk] at h
        have h := Option.some.inj h
        have := bd.size
        have := HQR.out
        omega
      have o8x := o8.keep (fun k hk => g9.block k (h8lt k hk) (fun e => h8ne k hk e.symm))
      have hX10 := hX9.grown g9 (fun e => by have := (H7B.out q e.symm).1; omega)
      have hL10 := hL9.grown g9 (fun e => by have := (H7B.out ql e.symm).1; omega)
      have hR10 := hR9.grown g9 (fun e => by have := (H7B.out qr e.symm).2; have := HQR.out; omega)
      have cF10 := cF9.grown g9 (by have := cF9.size; have := bw5.size; omega) (fun k hk => by have := (H7B.out k hk).1; omega)
      have hsep9 : ∀ k, Value.ownBlock (.slice A8 n8 c8) = some k → Value.ownBlock (.slice A9 n9 c9) ≠ some k := fun k hk e => by
       rcases hat9 with h | h
       ·exact h8ne k hk (h.symm.trans e)
       ·rw [e] at h
        have h := Option.some.inj h
        have := h8lt k hk
        omega
      refine hK.out _ _ ?_ (fun hHeld => ?_)
      ·try dsimp only
       exact hV10
      clear hK K hHeld
      refine tkr 8 fun K hK => ?_
      go_simp
      go_wp2_with (fail)
      refine hK.out _ _ ?_ (fun hHeld => ?_)
      ·try dsimp only
       exact hV10
      clear hK K
      clear hHeld
      refine tkr 9 fun K hK => ?_
      go_simp
      go_wp2_with (fail)
      refine hK.out _ _ ?_ (fun hHeld => ?_)
      ·try dsimp only
       exact hV10
      clear hK K
      clear hHeld
      refine wpAnyH_done (by kernel_rfl) ?_ _
      have HH := Lib.hid (show OX w10 Bz A8 n8 c8 (dG ++ xG) ∧ OX w10 Bz A9 n9 c9 (dN ++ xN) ∧ (∀ k, Value.ownBlock (.slice A8 n8 c8) = some k → Value.ownBlock (.slice A9 n9 c9) ≠ some k) ∧ Blk w10 q 77 #[.slice Ag ng cg, .int .i64 o, .slice A n c, .int .u32 nx, .int .i64 md, .int .i64 pf, .bool at_, .bool ha, .int .u32 gs, .int .u32 ga, .slice A1 n1 c1, .slice A2 n2 c2, .slice An nn cn] ∧ Blk w10 ql 77 (flC z Ag' ng' cg' o A n c nx md pf at_ ha gs ga A1 n1 c1 A2 n2 c2 An' nn' cn') ∧ Blk w10 qr 77 #[.slice Ag2 ng2 cg2, .int .i64 o, .slice A n c, .int .u32 nx, .int .i64 md, .int .i64 pf, .bool at_, .bool ha, .int .u32 gs, .int .u32 ga, .slice A1 n1 c1, .slice A2 n2 c2, .slice An2 nn2 cn2] ∧ Below w.heap.size w5 w10 ∧ Bz ≤ w10.heap.size from ⟨o8x, o9, hsep9, hX10, hL10, hR10, cF10, by have := g9.size; omega⟩)
      clear hat8 hat9 o8 o9 o8x g9 hV10 h8lt h8ne hX10 hL10 hR10 cF10 hsep9
      revert A8 n8 c8 A9 n9 c9 w10 HH
      exact HGG.out
    intro A8 n8 c8 A9 n9 c9 w10 HH
    obtain ⟨o8x, o9, hsep9, hX10, hL10, hR10, cF10, hB10⟩ := HH.out
    refine HK15.out _ _ ?_
    refine wp_region_lit ?_
    refine wpList_load_row rfl 77 (.tmp 10) rfl qr (by rfl) 77 #[.slice Ag2 ng2 cg2, .int .i64 o, .slice A n c, .int .u32 nx, .int .i64 md, .int .i64 pf, .bool at_, .bool ha, .int .u32 gs, .int .u32 ga, .slice A1 n1 c1, .slice A2 n2 c2, .slice An2 nn2 cn2] (0, 0) _ hR10 Tryz.underlying77 rfl upd_info1 ?_
    refine wpList_store_row rfl 77 (.tmp 5) (.tmp 99) rfl ql #[.slice Ag2 ng2 cg2, .int .i64 o, .slice A n c, .int .u32 nx, .int .i64 md, .int .i64 pf, .bool at_, .bool ha, .int .u32 gs, .int .u32 ga, .slice A1 n1 c1, .slice A2 n2 c2, .slice An2 nn2 cn2] (by rfl) (by rfl) 77 _ hL10 upd_info1 (by cases z <;> rfl) (by kernel_rfl) ?_
    have gL := row_grown w10 ql #[.slice Ag2 ng2 cg2, .int .i64 o, .slice A n c, .int .u32 nx, .int .i64 md, .int .i64 pf, .bool at_, .bool ha, .int .u32 gs, .int .u32 ga, .slice A1 n1 c1, .slice A2 n2 c2, .slice An2 nn2 cn2]
    have cFF := cF10.grown gL (by have := cF10.size; have := bw5.size; omega) (fun k hk => by injection hk with hk; omega)
    have hLF := hL10.row #[.slice Ag2 ng2 cg2, .int .i64 o, .slice A n c, .int .u32 nx, .int .i64 md, .int .i64 pf, .bool at_, .bool ha, .int .u32 gs, .int .u32 ga, .slice A1 n1 c1, .slice A2 n2 c2, .slice An2 nn2 cn2]
    have hXF := hX10.rowFar (k := ql) (by omega) #[.slice Ag2 ng2 cg2, .int .i64 o, .slice A n c, .int .u32 nx, .int .i64 md, .int .i64 pf, .bool at_, .bool ha, .int .u32 gs, .int .u32 ga, .slice A1 n1 c1, .slice A2 n2 c2, .slice An2 nn2 cn2]
    have o8F := o8x.keep (w' := w10.setRow ql #[.slice Ag2 ng2 cg2, .int .i64 o, .slice A n c, .int .u32 nx, .int .i64 md, .int .i64 pf, .bool at_, .bool ha, .int .u32 gs, .int .u32 ga, .slice A1 n1 c1, .slice A2 n2 c2, .slice An2 nn2 cn2]) (fun k hk => row_far w10 ql #[.slice Ag2 ng2 cg2, .int .i64 o, .slice A n c, .int .u32 nx, .int .i64 md, .int .i64 pf, .bool at_, .bool ha, .int .u32 gs, .int .u32 ga, .slice A1 n1 c1, .slice A2 n2 c2, .slice An2 nn2 cn2] (by have := (o8x.2.1.lt k hk).1; omega))
    have o9F := o9.keep (w' := w10.setRow ql #[.slice Ag2 ng2 cg2, .int .i64 o, .slice A n c, .int .u32 nx, .int .i64 md, .int .i64 pf, .bool at_, .bool ha, .int .u32 gs, .int .u32 ga, .slice A1 n1 c1, .slice A2 n2 c2, .slice An2 nn2 cn2]) (fun k hk => row_far w10 ql #[.slice Ag2 ng2 cg2, .int .i64 o, .slice A n c, .int .u32 nx, .int .i64 md, .int .i64 pf, .bool at_, .bool ha, .int .u32 gs, .int .u32 ga, .slice A1 n1 c1, .slice A2 n2 c2, .slice An2 nn2 cn2] (by have := (o9.2.1.lt k hk).1; omega))
    obtain ⟨wf, hwf2⟩ : ∃ x, w10.setRow ql #[.slice Ag2 ng2 cg2, .int .i64 o, .slice A n c, .int .u32 nx, .int .i64 md, .int .i64 pf, .bool at_, .bool ha, .int .u32 gs, .int .u32 ga, .slice A1 n1 c1, .slice A2 n2 c2, .slice An2 nn2 cn2] = x := ⟨_, rfl⟩
    rw [hwf2] at cFF hLF hXF o8F o9F gL
    rw [hwf2]
    have hG2F := hG2.below rPfx_ok cFF
    have hN2F := hN2.below rPfx_ok cFF
    have bwF := bw5.trans cFF
    have zF := gL.size
    have HIF := Lib.hid (show (dG ++ xG) ++ G' = gone ∧ (dN ++ xN) ++ N' = news ∧ (false = true → N' = []) ∧ (iN + 1) + ng2 + nn2 ≤ 120 ∧ Bz ≤ wf.heap.size from by
     have h1 := HHI.out
     have h3 := congrArg List.length HEG.out
     have h4 := congrArg List.length HEN.out
     rw [List.length_append] at h3 h4
     have h5 := hG2.len
     have h6 := hN2.len
     have h7 := HPOS.out
     have h8 := LGN.out
     refine ⟨by rw [List.append_assoc, HEG.out]; exact h1.1, by rw [List.append_assoc, HEN.out]; exact h1.2.1, (fun h => by first | exact HZ'.out h | exact HZ'.out trivial), by omega, by have := gL.size; omega⟩)
    clear hwf2
    go_wp2_with fail
    go_roundw
    case rel => exact ⟨iN + 1, false, G', N', dG ++ xG, dN ++ xN, Ag2, ng2, cg2, An2, nn2, cn2, A8, n8, c8, A9, n9, c9, by go_num, rfl, rfl, hLF, hXF, hG2F, hN2F, HCP2.out, o8F, o9F, hsep9, bwF, HIF⟩
    case measure => simp [intOf]; have := HI1.out; omega
open Go.ChangeShapes Go.WideShapes Go.RowKit Go.Deep Go.Joins
theorem pick_list {α : Type} {p : Nat → α → Prop} : ∀ (n : Nat), (∀ i, i < n → ∃ a, p i a) → ∃ l : List α, l.length = n ∧ ∀ i a, l[i]? = some a → p i a
 | 0, _ => ⟨[], rfl, fun i a h => by simp at h⟩
 | n + 1, h => by
  obtain ⟨l, hl, hp⟩ := pick_list n (fun i hi => h i (by omega))
  obtain ⟨a, ha⟩ := h n (by omega)
  refine ⟨l ++ [a], by simp [hl], fun i x hx => ?_⟩
  rcases Nat.lt_or_ge i l.length with hi | hi
  ·rw [List.getElem?_append_left hi] at hx
   exact hp i x hx
  ·have hi2 : i = l.length := by
    have := (List.getElem?_eq_some_iff.1 hx).1
    simp at this
    omega
   subst hi2
   rw [List.getElem?_append_right (Nat.le_refl _)] at hx
   simp at hx
   subst hx
   rw [hl]
   exact ha
section
variable {H : Type} {enc : TypeId × Value → H} {P : Program} {W : World} {r : Reach} {base : Nat} {t e : TypeId} {v : Value} {d : DataW H} {p : List MemPlace}
/-- A slice of values, each of some cells, opened, with what each datum says. -/
theorem open_rows_q {α : Type} {R : Rep α} {Q : DataW H → α → Prop} {size fuel : Nat} {A : Option Addr} {len cap : Nat} {x : DataW H × List MemPlace} (ht : P.underlying t = some (.slice e)) (hc : P.cellsOf e = size) (hs : 0 < size)
  (elem : ∀ (n : Nat) (cs : List Value) (x : DataW H × List MemPlace), cs.length = size → DataW.trod enc P W 0 (fun _ => true) true n e cs = some x → ∃ a : α, R W (Lo W) cs a ∧ Q x.1 a)
  (h : DataW.trod enc P W 0 (fun _ => true) true fuel t [.slice A len cap] = some x) :
  ∃ l : List α, DL R size W (Lo W) A len l ∧ len ≤ cap ∧ cap ≤ maxLen ∧ ∀ a ∈ l, ∃ (es sp : List (DataW H)) (d : DataW H), x.1 = .slice es sp ∧ d ∈ es ∧ Q d a := by
 rcases DataW.trod_slice ht h with ⟨hcs, _⟩ | ⟨a, len', cap', elems, rest, n, _, hcs, hx, _, hl, hm, hlen, hel, _, _⟩
 ·simp at hcs
  obtain ⟨rfl, rfl, rfl⟩ := hcs
  exact ⟨[], DL.none_, Nat.le_refl _, by unfold maxLen; omega, fun a ha => by cases ha⟩
 ·simp at hcs
  obtain ⟨rfl, rfl, rfl⟩ := hcs
  rw [hc] at hel
  have key : ∀ i, i < len → ∃ q : List Value × α, q.1.length = size ∧ R W (Lo W) q.1 q.2 ∧ (∃ d, d ∈ elems.map (·.1) ∧ Q d q.2) ∧ ∃ (b off : Nat), a = ⟨b, off, none⟩ ∧ b < W.heap.size ∧ ∀ (j : Nat) (u : Value), q.1[j]? = some u → W.cell? ⟨b, off + (i * size + j), none⟩ = some u := by
   intro i hi
   have h1 := hel i hi
   have hei : elems[i]? = some elems[i] := List.getElem?_eq_getElem (by omega)
   rw [hei, Option.bind_eq_some_iff] at h1
   obtain ⟨cs, hcs, ht⟩ := h1
   obtain ⟨_, hl2, hcell⟩ := World.cells?_some hcs
   obtain ⟨m, hm, hq⟩ := elem _ cs _ hl2 ht
   have hspot : a.spot = none := by
    have h1 := hel 0 (by omega)
    rw [List.getElem?_eq_getElem (by omega), Option.bind_eq_some_iff] at h1
    obtain ⟨cs, hcs, ht⟩ := h1
    obtain ⟨_, hl2, hcell⟩ := World.cells?_some hcs
    have g0 := hcell 0 (by omega)
    rw [List.getElem?_eq_getElem (by omega)] at g0
    have := World.cell?_spot g0
    simpa [Addr.add] using this
   have g0 := hcell 0 (by omega)
   rw [add_of_add, List.getElem?_eq_getElem (by omega)] at g0
   have hlt := lt_of_cell g0
   rw [block_of_add] at hlt
   obtain ⟨b, off, spot⟩ := a
   simp only at hspot
   subst hspot
   refine ⟨(cs, m), hl2, hm, ⟨_, List.mem_map.2 ⟨_, List.mem_of_getElem? hei, rfl⟩, hq⟩, b, off, rfl, hlt, fun j u hu => ?_⟩
   have hj : j < size := by rw [← hl2]; exact (List.getElem?_eq_some_iff.1 hu).1
   have g := hcell j hj
   rw [add_of_add, addr_add] at g
   rw [g]
   exact hu
  obtain ⟨qs, hql, hqs⟩ := pick_list len key
  have hsz : ∀ cs ∈ qs.map (·.1), cs.length = size := by
   intro cs hcs
   obtain ⟨q, hq, rfl⟩ := List.mem_map.1 hcs
   obtain ⟨i, hi⟩ := List.getElem?_of_mem hq
   exact (hqs i q hi).1
  refine ⟨qs.map (·.2), ⟨qs.map (·.1), by simp, by simp [hql], ⟨by rw [flat_len hsz]; simp [hql], fun hn => ?_⟩, fun i cs x h1 h2 => ?_, hsz⟩, hl, hm, fun y hy => ?_⟩
  ·obtain ⟨q, hq⟩ : ∃ q, qs[0]? = some q := ⟨_, List.getElem?_eq_getElem (by omega)⟩
   obtain ⟨_, _, _, b, off, rfl, hlt, _⟩ := hqs 0 q hq
   refine ⟨b, off, rfl, hlt, fun j u hu => ?_⟩
   have hj : j < len * size := by
    have := (List.getElem?_eq_some_iff.1 hu).1
    rw [flat_len hsz] at this
    simpa [hql] using this
   have hi : j / size < len := Nat.div_lt_of_lt_mul (by rw [Nat.mul_comm]; exact hj)
   obtain ⟨q2, hq2⟩ : ∃ q, qs[j / size]? = some q := ⟨_, List.getElem?_eq_getElem (by omega)⟩
   obtain ⟨_, _, _, b2, off2, e2, _, hc2⟩ := hqs (j / size) q2 hq2
   injection e2 with e3 e4
   subst e3 e4
   have hm2 : j % size < size := Nat.mod_lt _ hs
   have hdm : j / size * size + j % size = j := by rw [Nat.mul_comm]; exact Nat.div_add_mod j size
   have hf := flat_at hsz (i := j / size) (j := j % size) (cs := q2.1) (by simp [hq2]) hm2
   rw [hdm, hu] at hf
   have := hc2 (j % size) u hf.symm
   rwa [hdm] at this
  ·rw [List.getElem?_map, Option.map_eq_some_iff] at h1 h2
   obtain ⟨q, hq, rfl⟩ := h1
   obtain ⟨q', hq', rfl⟩ := h2
   rw [hq] at hq'
   injection hq' with hq'
   subst hq'
   exact (hqs i q hq).2.1
  ·obtain ⟨q, hq, rfl⟩ := List.mem_map.1 hy
   obtain ⟨i, hi⟩ := List.getElem?_of_mem hq
   obtain ⟨_, _, ⟨d, hd, hqd⟩, _⟩ := hqs i q hi
   exact ⟨_, _, d, by rw [hx], hd, hqd⟩
theorem weights_all {e : TypeId} : ∀ {l : List (DataW H)} {d : DataW H}, d ∈ l → ∀ n ∈ d.weights P e, n ∈ DataW.weightsAll P e l
 | d' :: r, d, hd, n, hn => by
  simp only [DataW.weightsAll, List.mem_append]
  rcases List.mem_cons.1 hd with rfl | h
  ·exact Or.inl hn
  ·exact Or.inr (weights_all h n hn)
end
section
variable {H : Type} {enc : TypeId × Value → H} {W : World} {r : Reach} {base : Nat} {v : Value} {d : DataW H} {p : List MemPlace}
/-- A part's numbers have room. -/
def segQ (d : DataW H) (a : Seg) : Prop := a.2 = [] ∨ ∃ N ∈ d.weights Tryz.prog 229, a.2.length * 4 ≤ N
set_option maxRecDepth 100000 in
theorem seg_of_cells (n : Nat) (cs : List Value) (x : DataW H × List MemPlace) (hl : cs.length = 2) (h : DataW.trod enc Tryz.prog W 0 (fun _ => true) true n 229 cs = some x) : ∃ a : Seg, rSeg W (Lo W) cs a ∧ segQ x.1 a := by
 match cs, hl with
 | [c0, c1], _ =>
  obtain ⟨y0, y1, n, hx, _, h0, h1⟩ := trod_struct2 Tryz.underlying229 h
  obtain ⟨a, e0, _, _⟩ := DataW.trod_int Tryz.underlying3 h0
  have k1 : Tryz.prog.cellsOf 3 = 1 := by kernel_rfl
  have k2 : Tryz.prog.cellsOf 72 = 1 := by kernel_rfl
  simp [k1] at e0
  simp [k2] at h1
  subst e0
  rcases DataW.trod_slice Tryz.underlying72 h1 with ⟨hcs, _⟩ | ⟨A, len, cap, elems, rest, _, _, hcs, hy, _, _, _, hlen, _, _, _⟩
  ·simp only [List.cons.injEq, and_true] at hcs
   subst hcs
   exact ⟨(a, []), ⟨none, 0, 0, rfl, NF.none_, Nat.le_refl _⟩, .inl rfl⟩
  ·simp only [List.cons.injEq, and_true] at hcs
   subst hcs
   obtain ⟨l, hb, hlc, _⟩ := open_nums_at Tryz.underlying72 Tryz.underlying22 (by kernel_rfl) h1
   refine ⟨(a, l), ⟨some A, len, cap, rfl, NF.of hb (fun b hb => hb), hlc⟩, .inr ⟨(elems.length + rest.length) * 4, ?_, ?_⟩⟩
   ·have kb : Tryz.prog.bytesOf 22 = 4 := by kernel_rfl
    rw [hx, hy]
    simp [DataW.weights, DataW.weightsEach, Tryz.underlying229, Tryz.underlying72, kb]
   ·show l.length * 4 ≤ _
    have : len = l.length := hb.1
    omega
end
open Go.ChangeShapes Go.WideShapes Go.RowKit Go.Deep Go.Joins
section
variable {H : Type} {enc : TypeId × Value → H} {W : World} {r : Reach} {base : Nat} {v : Value} {d : DataW H} {p : List MemPlace}
set_option maxRecDepth 100000 in
theorem raw_of_cells (n : Nat) (cs : List Value) (x : DataW H × List MemPlace) (hl : cs.length = 3) (h : DataW.trod enc Tryz.prog W 0 (fun _ => true) true n 168 cs = some x) : ∃ a : RawV, rRaw W (Lo W) cs a := by
 match cs, hl with
 | [c0, c1, c2], _ =>
  obtain ⟨y0, y1, y2, n, _, _, h0, h1, h2⟩ := trod_struct3 Tryz.underlying168 h
  have k1 : Tryz.prog.cellsOf 3 = 1 := by kernel_rfl
  have k2 : Tryz.prog.cellsOf 38 = 1 := by kernel_rfl
  simp [k1] at h0 h1
  simp [k2] at h2
  obtain ⟨a, e0, _, wa⟩ := DataW.trod_int Tryz.underlying3 h0
  obtain ⟨b, e1, _, wb⟩ := DataW.trod_int Tryz.underlying3 h1
  simp only [List.cons.injEq, and_true] at e0 e1
  subst e0 e1
  rcases DataW.trod_slice Tryz.underlying38 h2 with ⟨hcs, _⟩ | ⟨A, len, cap, _, _, _, _, hcs, _⟩
  ·simp only [List.cons.injEq, and_true] at hcs
   subst hcs
   exact ⟨(a, b, []), none, 0, 0, rfl, BF.of (B := 0) BS.none_ (fun b hb => absurd hb (by omega)), Nat.le_refl _, wa, wb⟩
  ·simp only [List.cons.injEq, and_true] at hcs
   subst hcs
   obtain ⟨l, hb, hl, _⟩ := open_bytes_at Tryz.underlying38 Tryz.underlying5 (by kernel_rfl) h2
   exact ⟨(a, b, l), some A, len, cap, rfl, BF.of hb (fun b hb => hb), hl, wa, wb⟩
theorem room_of {e : DataW H} {l : List Seg} (hz : ∀ N ∈ e.weights Tryz.prog 71, N ≤ reachBytes) (hq : ∀ a ∈ l, ∃ (es sp : List (DataW H)) (d : DataW H), e = .slice es sp ∧ d ∈ es ∧ segQ d a) : ∀ x ∈ l, x.2.length ≤ big32 := by
 intro x hx
 obtain ⟨es, sp, dd, e1, hm, hQ⟩ := hq x hx
 rcases hQ with h0 | ⟨N, hN, hle⟩
 ·rw [h0]; exact Nat.zero_le _
 ·have hw : N ∈ e.weights Tryz.prog 71 := by
   rw [e1]
   simp only [DataW.weights, Tryz.underlying71, List.mem_cons, List.mem_append]
   exact .inr (.inl (weights_all hm N hN))
  have := hz N hw
  have hr : reachBytes = 140737488351232 := rfl
  unfold big32
  omega
end
open Go.ChangeShapes Go.WideShapes Go.RowKit
open Go.ChangeShapes Go.WideShapes Go.RowKit Go.Deep Go.Joins
section
variable {H : Type} {enc : TypeId × Value → H} {W : World} {r : Reach} {base : Nat} {v : Value} {d : DataW H} {p : List MemPlace}
set_option maxRecDepth 100000 in
theorem attr_of_cells (fuel : Nat) (cs : List Value) (d : DataW H) (p : List MemPlace) (hl : cs.length = 11) (hf : DataW.trod enc Tryz.prog W 0 (fun _ => true) true fuel 75 cs = some (d, p)) (hz : ∀ N ∈ d.weights Tryz.prog 75, N ≤ reachBytes) :
  ∃ (o : Int) (A : Option Addr) (n c : Nat) (path : List Seg) (nx md pf : Int) (at_ ha : Bool) (gs ga : Int) (A1 : Option Addr) (n1 c1 : Nat) (comms : List Int) (A2 : Option Addr) (n2 c2 : Nat) (raws : List RawV), cs = [.int .i64 o, .slice A n c, .int .u32 nx, .int .i64 md, .int .i64 pf, .bool at_, .bool ha, .int .u32 gs, .int .u32 ga, .slice A1 n1 c1, .slice A2 n2 c2] ∧ DL rSeg 2 W (Lo W) A n path ∧ NF W (Lo W) A1 n1 comms ∧ DL rRaw 3 W (Lo W) A2 n2 raws ∧ (0 ≤ nx ∧ nx < 4294967296 ∧ 0 ≤ gs ∧ gs < 4294967296 ∧ 0 ≤ ga ∧ ga < 4294967296) ∧ ∀ x ∈ path, x.2.length ≤ big32 := by
 have k1 : Tryz.prog.cellsOf 3 = 1 := by kernel_rfl
 have k2 : Tryz.prog.cellsOf 22 = 1 := by kernel_rfl
 have k3 : Tryz.prog.cellsOf 4 = 1 := by kernel_rfl
 have k4 : Tryz.prog.cellsOf 71 = 1 := by kernel_rfl
 have k5 : Tryz.prog.cellsOf 72 = 1 := by kernel_rfl
 have k6 : Tryz.prog.cellsOf 73 = 1 := by kernel_rfl
 obtain ⟨c0, c1, c2, c3, c4, c5, c6, c7, c8, c9, c10, rfl⟩ : ∃ c0 c1 c2 c3 c4 c5 c6 c7 c8 c9 c10, cs = [c0, c1, c2, c3, c4, c5, c6, c7, c8, c9, c10] := by
  match cs, hl with
  | [c0, c1, c2, c3, c4, c5, c6, c7, c8, c9, c10], _ => exact ⟨c0, c1, c2, c3, c4, c5, c6, c7, c8, c9, c10, rfl⟩
 obtain ⟨xs, m, _, hd, _, hlen, hf⟩ := DataW.trod_struct Tryz.underlying75 hf
 match xs, hlen with
 | [y0, y1, y2, y3, y4, y5, y6, y7, y8, y9, y10], _ =>
  have h0 := hf 0 _ rfl
  have h1 := hf 1 _ rfl
  have h2 := hf 2 _ rfl
  have h3 := hf 3 _ rfl
  have h4 := hf 4 _ rfl
  have h5 := hf 5 _ rfl
  have h6 := hf 6 _ rfl
  have h7 := hf 7 _ rfl
  have h8 := hf 8 _ rfl
  have h9 := hf 9 _ rfl
  have h10 := hf 10 _ rfl
  simp [k1, Value.cells] at h0 h3 h4
  simp [k2, Value.cells] at h2 h7 h8
  simp [k3, Value.cells] at h5 h6
  simp [k4, Value.cells] at h1
  simp [k5, Value.cells] at h9
  simp [k6, Value.cells] at h10
  obtain ⟨o, e0, _, _⟩ := DataW.trod_int Tryz.underlying3 h0
  obtain ⟨nx, e2, _, w2⟩ := DataW.trod_int Tryz.underlying22 h2
  obtain ⟨md, e3, _, _⟩ := DataW.trod_int Tryz.underlying3 h3
  obtain ⟨pf, e4, _, _⟩ := DataW.trod_int Tryz.underlying3 h4
  obtain ⟨at_, e5, _⟩ := DataW.trod_bool Tryz.underlying4 h5
  obtain ⟨ha, e6, _⟩ := DataW.trod_bool Tryz.underlying4 h6
  obtain ⟨gs, e7, _, w7⟩ := DataW.trod_int Tryz.underlying22 h7
  obtain ⟨ga, e8, _, w8⟩ := DataW.trod_int Tryz.underlying22 h8
  simp only [List.cons.injEq, and_true] at e0 e2 e3 e4 e5 e6 e7 e8
  subst e0 e2 e3 e4 e5 e6 e7 e8
  have w2 : 0 ≤ nx ∧ nx ≤ 4294967295 := by simpa [Lit.wf, IntKind.min, IntKind.max, IntKind.signed, IntKind.bits] using w2
  have w7 : 0 ≤ gs ∧ gs ≤ 4294967295 := by simpa [Lit.wf, IntKind.min, IntKind.max, IntKind.signed, IntKind.bits] using w7
  have w8 : 0 ≤ ga ∧ ga ≤ 4294967295 := by simpa [Lit.wf, IntKind.min, IntKind.max, IntKind.signed, IntKind.bits] using w8
  have hwt : ∀ N ∈ y1.1.weights Tryz.prog 71, N ≤ reachBytes := fun N hN => hz N (by
   have e : d = .agg [y0.1, y1.1, y2.1, y3.1, y4.1, y5.1, y6.1, y7.1, y8.1, y9.1, y10.1] := by
    have := congrArg (·.1) hd
    simpa using this
   rw [e]
   simp only [DataW.weights, DataW.weightsEach, Tryz.underlying75]
   simp [DataW.weightsEach, hN])
  have hpath : ∃ (A : Option Addr) (n c : Nat) (path : List Seg), c1 = .slice A n c ∧ DL rSeg 2 W (Lo W) A n path ∧ ∀ x ∈ path, x.2.length ≤ big32 := by
   rcases DataW.trod_slice Tryz.underlying71 h1 with ⟨hcs, _⟩ | ⟨A, len, cap, _, _, _, _, hcs, _⟩
   ·simp only [List.cons.injEq, and_true] at hcs
    exact ⟨none, 0, 0, [], hcs, DL.none_, fun x hx => by cases hx⟩
   ·simp only [List.cons.injEq, and_true] at hcs
    subst hcs
    obtain ⟨l, hdl, _, _, hq⟩ := open_rows_q Tryz.underlying71 (by kernel_rfl) (by omega) seg_of_cells h1
    exact ⟨some A, len, cap, l, rfl, hdl, room_of hwt hq⟩
  have hcomm : ∃ (A : Option Addr) (n c : Nat) (l : List Int), c9 = .slice A n c ∧ NF W (Lo W) A n l := by
   rcases DataW.trod_slice Tryz.underlying72 h9 with ⟨hcs, _⟩ | ⟨A, len, cap, _, _, _, _, hcs, _⟩
   ·simp only [List.cons.injEq, and_true] at hcs
    exact ⟨none, 0, 0, [], hcs, NF.none_⟩
   ·simp only [List.cons.injEq, and_true] at hcs
    subst hcs
    obtain ⟨l, hb, _⟩ := open_nums_at Tryz.underlying72 Tryz.underlying22 (by kernel_rfl) h9
    exact ⟨some A, len, cap, l, rfl, NF.of hb (fun b hb => hb)⟩
  have hraw : ∃ (A : Option Addr) (n c : Nat) (l : List RawV), c10 = .slice A n c ∧ DL rRaw 3 W (Lo W) A n l := by
   rcases DataW.trod_slice Tryz.underlying73 h10 with ⟨hcs, _⟩ | ⟨A, len, cap, _, _, _, _, hcs, _⟩
   ·simp only [List.cons.injEq, and_true] at hcs
    exact ⟨none, 0, 0, [], hcs, DL.none_⟩
   ·simp only [List.cons.injEq, and_true] at hcs
    subst hcs
    obtain ⟨l, hdl, _, _, _⟩ := open_rows_q (R := rRaw) (size := 3) (Q := fun _ _ => True) Tryz.underlying73 (by kernel_rfl) (by omega) (fun n cs x hl h => by
     obtain ⟨a, ha⟩ := raw_of_cells n cs x hl h
     exact ⟨a, ha, trivial⟩) h10
    exact ⟨some A, len, cap, l, rfl, hdl⟩
  obtain ⟨A, n, c, path, rfl, hp, hr⟩ := hpath
  obtain ⟨A1, n1, c1', comms, rfl, hc⟩ := hcomm
  obtain ⟨A2, n2, c2', raws, rfl, hw⟩ := hraw
  exact ⟨o, A, n, c, path, nx, md, pf, at_, ha, gs, ga, A1, n1, c1', comms, A2, n2, c2', raws, rfl, hp, hc, hw, ⟨w2.1, by omega, w7.1, by omega, w8.1, by omega⟩, hr⟩
set_option maxRecDepth 100000 in
theorem pfx_of_cells (n : Nat) (cs : List Value) (x : DataW H × List MemPlace) (hl : cs.length = 2) (h : DataW.trod enc Tryz.prog W 0 (fun _ => true) true n 146 cs = some x) : ∃ a : Pfx, rPfx W (Lo W) cs a := by
 match cs, hl with
 | [c0, c1], _ =>
  obtain ⟨y0, y1, n, _, _, h0, h1⟩ := trod_struct2 Tryz.underlying146 h
  have k1 : Tryz.prog.cellsOf 22 = 1 := by kernel_rfl
  have k2 : Tryz.prog.cellsOf 3 = 1 := by kernel_rfl
  obtain ⟨a, e0, _, wa⟩ := DataW.trod_int Tryz.underlying22 h0
  obtain ⟨b, e1, _, wb⟩ := DataW.trod_int Tryz.underlying3 h1
  simp [k1] at e0
  simp [k2] at e1
  subst e0 e1
  have wa : 0 ≤ a ∧ a ≤ 4294967295 := by simpa [Lit.wf, IntKind.min, IntKind.max, IntKind.signed, IntKind.bits] using wa
  obtain ⟨a, rfl⟩ := Int.eq_ofNat_of_zero_le wa.1
  exact ⟨(a, b), rfl, by show a < _; omega, wb⟩
end
open Go.ChangeShapes Go.WideShapes Go.RowKit Go.Deep Go.Joins
section
variable {H : Type} {enc : TypeId × Value → H} {W : World} {r : Reach} {base : Nat} {v : Value} {d : DataW H} {p : List MemPlace}
set_option maxRecDepth 100000 in
theorem open_updC (hv : Value.okWide Tryz.prog W r base 77 v) (h : DataW.Trod enc Tryz.prog W 0 (fun _ => true) true 77 v d p) (hz : ∀ N ∈ d.weights Tryz.prog 77, N ≤ reachBytes) :
  ∃ (Ag : Option Addr) (ng cg : Nat) (gone : List Pfx) (o : Int) (A : Option Addr) (n c : Nat) (path : List Seg) (nx md pf : Int) (at_ ha : Bool) (gs ga : Int) (A1 : Option Addr) (n1 c1 : Nat) (comms : List Int) (A2 : Option Addr) (n2 c2 : Nat) (raws : List RawV) (An : Option Addr) (nn cn : Nat) (news : List Pfx), v = .agg #[.slice Ag ng cg, .int .i64 o, .slice A n c, .int .u32 nx, .int .i64 md, .int .i64 pf, .bool at_, .bool ha, .int .u32 gs, .int .u32 ga, .slice A1 n1 c1, .slice A2 n2 c2, .slice An nn cn] ∧ DL rPfx 2 W (Lo W) Ag ng gone ∧ DL rSeg 2 W (Lo W) A n path ∧ NF W (Lo W) A1 n1 comms ∧ DL rRaw 3 W (Lo W) A2 n2 raws ∧ DL rPfx 2 W (Lo W) An nn news ∧ (0 ≤ nx ∧ nx < 4294967296 ∧ 0 ≤ gs ∧ gs < 4294967296 ∧ 0 ≤ ga ∧ ga < 4294967296) ∧ (∀ x ∈ path, x.2.length ≤ big32) ∧ (ng ≤ cg ∧ nn ≤ cn) := by
 have k0 : Tryz.prog.cellsOf 77 = 13 := by kernel_rfl
 have k1 : Tryz.prog.cellsOf 70 = 1 := by kernel_rfl
 have k2 : Tryz.prog.cellsOf 75 = 11 := by kernel_rfl
 obtain ⟨cs, rfl, hsz⟩ := okWide_struct Tryz.underlying77 hv
 obtain ⟨c0, c1, c2, c3, c4, c5, c6, c7, c8, c9, c10, c11, c12, rfl⟩ : ∃ c0 c1 c2 c3 c4 c5 c6 c7 c8 c9 c10 c11 c12, cs = #[c0, c1, c2, c3, c4, c5, c6, c7, c8, c9, c10, c11, c12] := by
  obtain ⟨l⟩ := cs
  match l, hsz.trans k0 with
  | [c0, c1, c2, c3, c4, c5, c6, c7, c8, c9, c10, c11, c12], _ => exact ⟨c0, c1, c2, c3, c4, c5, c6, c7, c8, c9, c10, c11, c12, rfl⟩
 obtain ⟨fuel, hf⟩ := h
 obtain ⟨xs, m, _, hd, _, hlen, hf⟩ := DataW.trod_struct Tryz.underlying77 hf
 match xs, hlen with
 | [y0, y1, y2], _ =>
  have h0 := hf 0 _ rfl
  have h1 := hf 1 _ rfl
  have h2 := hf 2 _ rfl
  simp [k1, k2, Value.cells] at h0 h1 h2
  have e : d = .agg [y0.1, y1.1, y2.1] := by
   have := congrArg (·.1) hd
   simpa using this
  have hwt : ∀ N ∈ y1.1.weights Tryz.prog 75, N ≤ reachBytes := fun N hN => hz N (by
   rw [e]
   simp only [DataW.weights, DataW.weightsEach, Tryz.underlying77]
   simp [DataW.weightsEach, hN])
  have hpf : ∀ {cc : Value} {y : DataW H × List MemPlace} {m : Nat}, DataW.trod enc Tryz.prog W 0 (fun _ => true) true m 70 [cc] = some y → ∃ (A : Option Addr) (n c : Nat) (l : List Pfx), cc = .slice A n c ∧ DL rPfx 2 W (Lo W) A n l ∧ n ≤ c := by
   intro cc y m hh
   rcases DataW.trod_slice Tryz.underlying70 hh with ⟨hcs, _⟩ | ⟨A, len, cap, _, _, _, _, hcs, _⟩
   ·simp only [List.cons.injEq, and_true] at hcs
    exact ⟨none, 0, 0, [], hcs, DL.none_, Nat.le_refl _⟩
   ·simp only [List.cons.injEq, and_true] at hcs
    subst hcs
    obtain ⟨l, hdl, hlc, _, _⟩ := open_rows_q (R := rPfx) (size := 2) (Q := fun _ _ => True) Tryz.underlying70 (by kernel_rfl) (by omega) (fun n cs x hl h => by
     obtain ⟨a, ha⟩ := pfx_of_cells n cs x hl h
     exact ⟨a, ha, trivial⟩) hh
    exact ⟨some A, len, cap, l, rfl, hdl, hlc⟩
  obtain ⟨Ag, ng, cg, gone, rfl, hg, hgc⟩ := hpf h0
  obtain ⟨An, nn, cn, news, rfl, hm, hnc⟩ := hpf h2
  obtain ⟨o, A, n, c, path, nx, md, pf, at_, ha, gs, ga, A1, n1, c1', comms, A2, n2, c2', raws, hcs, hp, hc, hw, hwf, hr⟩ := attr_of_cells _ _ _ _ rfl h1 hwt
  simp only [List.cons.injEq, and_true] at hcs
  obtain ⟨rfl, rfl, rfl, rfl, rfl, rfl, rfl, rfl, rfl, rfl, rfl⟩ := hcs
  exact ⟨Ag, ng, cg, gone, o, A, n, c, path, nx, md, pf, at_, ha, gs, ga, A1, n1, c1', comms, A2, n2, c2', raws, An, nn, cn, news, rfl, hg, hp, hc, hw, hm, hwf, hr, ⟨hgc, hnc⟩⟩
end
end Go.Proofs.YthgjknmfghjioaaGreatDoor
