/- Joined texts (UpdB UpdG UpdD Ints AttL AspU AttM Ins InsR AttN). Conditions: those of the theorems. -/
import Derived.Test.YthgjknmfghjioaaGreatDoorProg
import Derived.WalkKit
import Derived.WalkSpells
import Derived.WalkLawsBesides
import Derived.Outline
import Derived.Deep.QuietTactic
import Derived.BigQuiet
import Derived.Handy
import Derived.Lib.Hide
import Derived.Test.YthgjknmfghjioaaGreatDoorUF1
import Derived.Test.YthgjknmfghjioaaGreatDoorUF2
import Derived.Deep.DeepCutAuto
import Derived.Deep.CutBlock
import Derived.Deep.LoopGhost
import Derived.Test.YthgjknmfghjioaaGreatDoorBase
import Derived.Laws.Cover4
import Derived.OrdersHeld
import Derived.Deep.RegionHeld
import Derived.Laws.CopyRow
import Derived.Laws.IdiomCopy
import Derived.Lib.Overlaps
import Derived.Lib.AppendZerosOnto
import Derived.Shelf.RegionOpenPlain
import Derived.Laws.NewBlocks
import Derived.Test.YthgjknmfghjioaaGreatDoorTki
namespace Go.Proofs.YthgjknmfghjioaaGreatDoor
open Go.RowKit
set_option linter.unusedSimpArgs false
set_option linter.unusedVariables false
/-- A prefix in cells. -/
def rPfx : Rep Pfx := fun _ _ cs p => cs = [.int .u32 (p.1 : Int), .int .i64 p.2] ∧ p.1 < 4294967296 ∧ (Lit.int .i64 p.2).wf = true
theorem rPfx_ok : rPfx.Ok 2 where
 len := by rintro w S cs a ⟨rfl, _⟩; rfl
 one := by
  rintro w S cs a ⟨rfl, _⟩ u hu
  simp at hu
  rcases hu with rfl | rfl <;> rfl
 keep := by rintro w w' S S' cs a h _; exact h
theorem DL.pfxAt {w : World} {S : Nat → Prop} {A : Option Addr} {n : Nat} {l : List Pfx} (h : DL rPfx 2 w S A n l) {j : Nat} {x : Pfx} (hj : l[j]? = some x) :
  ∃ b off, A = some ⟨b, off, none⟩ ∧ S b ∧ w.cell? ⟨b, off + j * 2, none⟩ = some (.int .u32 (x.1 : Int)) ∧ w.cell? ⟨b, off + j * 2 + 1, none⟩ = some (.int .i64 x.2) ∧ x.1 < 4294967296 ∧ (Lit.int .i64 x.2).wf = true := by
 obtain ⟨b, off, cs, e, hb, _, hc, rfl, h1, h2⟩ := h.at_ hj
 exact ⟨b, off, e, hb, by simpa using hc 0 _ rfl, by simpa using hc 1 _ rfl, h1, h2⟩
theorem DL.pfxB5 {w w' : World} {A : Option Addr} {n : Nat} {l : List Pfx} (h : DL rPfx 2 w (Lo w) A n l) (hb : Below w.heap.size w w') : DL rPfx 2 w' (Lo w') A n l := h.keep rPfx_ok (Kp.call hb)
theorem DL.segB5 {w w' : World} {A : Option Addr} {n : Nat} {l : List Seg} (h : DL rSeg 2 w (Lo w) A n l) (hb : Below w.heap.size w w') : DL rSeg 2 w' (Lo w') A n l := h.keep rSeg_ok (Kp.call hb)
theorem DL.rawB5 {w w' : World} {A : Option Addr} {n : Nat} {l : List RawV} (h : DL rRaw 3 w (Lo w) A n l) (hb : Below w.heap.size w w') : DL rRaw 3 w' (Lo w') A n l := h.keep rRaw_ok (Kp.call hb)
theorem NF.numB5 {w w' : World} {A : Option Addr} {n : Nat} {l : List Int} (h : NF w (Lo w) A n l) (hb : Below w.heap.size w w') : NF w' (Lo w') A n l := h.keep (Kp.call hb)
theorem DL.wfP {w : World} {S : Nat → Prop} {A : Option Addr} {n : Nat} {l : List Pfx} (h : DL rPfx 2 w S A n l) : ∀ p ∈ l, p.1 < 4294967296 := by
 intro p hp
 obtain ⟨i, hi⟩ := List.getElem?_of_mem hp
 obtain ⟨_, _, _, _, _, _, h1, _⟩ := h.pfxAt hi
 exact h1
theorem prefixPutY (A : Option Addr) (n c : Nat) (l : List UInt8) (p : Pfx) (ha : p.1 < 4294967296) (w : World) (h : BS w w.heap.size A n l) (hn : n ≤ 100000) (hr : okQ p = true) :
  Calls Tryz.prog 189 #[.slice A n c, .agg #[.int .u32 (p.1 : Int), .int .i64 p.2]] w (RetPut w (l ++ pB p) 0) := by
 obtain ⟨k, hk, h32, _⟩ := okQ_of hr
 obtain ⟨a, m⟩ := p
 simp only at hk ha
 subst hk
 have := prefixPut_yes A n c l a ha k h32 w h hn hr
 unfold pB
 exact this
theorem prefixPutN (A : Option Addr) (n c : Nat) (p : Pfx) (ha : p.1 < 4294967296) (w : World) (hr : okQ p = false) :
  Calls Tryz.prog 189 #[.slice A n c, .agg #[.int .u32 (p.1 : Int), .int .i64 p.2]] w (RetPut w [] 1) := prefixPut_no A n c p.1 ha p.2 w hr
set_option maxHeartbeats 2000000 in
set_option maxRecDepth 100000 in
theorem updPrefixes (A : Option Addr) (n c : Nat) (l : List Pfx) (w : World) (hd : DL rPfx 2 w (Lo w) A n l) (hn : n ≤ 10000) :
  Calls Tryz.prog 134 #[.slice A n c] w (RetPut w (putPs l).1 (putPs l).2) := by
 have HN := Lib.hid hd.len
 go_enter Tryz.func134, Tryz.ntmps134
 go_wp2_with fail
 go_loopw [4, 11] (fun o i wr => ∃ (j : Nat) (A1 : Option Addr) (m1 c1 : Nat), j ≤ n ∧ i = .int .i64 j ∧ o = .slice A1 m1 c1 ∧ OB wr 5 w.heap.size A1 m1 c1 (pfxB (l.take j)) ∧ Hid ((l.take j).all okQ = true) ∧ Below w.heap.size w wr) (fun _ i _ => n - (intOf i).toNat)
 case atStart => exact ⟨0, none, 0, 0, by omega, rfl, rfl, by simpa [pfxB] using OB.nil_, Lib.hid (by simp), Below.refl _ _⟩
 case round =>
  obtain ⟨j, A1, m1, c1, hj, rfl, rfl, o1, HK, hb⟩ := hrel
  by_cases hlt : j < n
  ·obtain ⟨p, hp⟩ : ∃ p, l[j]? = some p := ⟨_, List.getElem?_eq_getElem (by have := HN.out; omega)⟩
   have e2 : decide ((j : Int) < n) = true := decide_eq_true (by omega)
   obtain ⟨b, off, rfl, hbl, k0, k1, hpa, hpw⟩ := (hd.keep rPfx_ok (Kp.call hb)).pfxAt hp
   have wj : IntKind.i64.wrap ((j : Int) + 1) = (j : Int) + 1 := IntWalk.i64_in _ ⟨by omega, by omega⟩
   have HT := Lib.hid (pfxB_take hp)
   have HA := Lib.hid (okAll_take hp)
   have HF := Lib.hid (fun h => okAll_not (l := l) hp h)
   have hPl : m1 ≤ 100000 := by
    have h1 := pfxB_len (l.take j)
    have h2 := o1.1
    rw [List.length_take] at h1
    omega
   clear hp
   obtain ⟨P, hP⟩ : ∃ P, pfxB (l.take j) = P := ⟨_, rfl⟩
   rw [hP] at o1 HT
   clear hP
   have b1 := hb.alloc hb.size (.cells #[.int .u32 (p.1 : Int), .int .i64 p.2] 146)
   have hX := Blk.new wr 146 #[.int .u32 (p.1 : Int), .int .i64 p.2]
   have x0 := hX.cell 0
   have x1 := hX.cell 1
   have o2 := (o1.alloc (.cells #[.int .u32 (p.1 : Int), .int .i64 p.2] 146)).bs
   cases hk : okQ p
   ·have HE := Lib.hid (show putPs l = ([], 1) by unfold putPs; rw [HF.out hk]; rfl)
    go_wp2_with fail
    refine (prefixPutN A1 m1 c1 p hpa _ hk).mono ?_
    rintro _ w2 ⟨A2, n2, c2, rfl, o3, b2⟩
    have b02 := btr b1 b2 b1.size
    go_wp2_with fail
    go_ret2
    rw [HE.out]
    exact ⟨none, 0, 0, rfl, OB.nil_, b02⟩
   ·go_wp2_with fail
    refine (prefixPutY A1 m1 c1 P p hpa _ o2 hPl hk).mono ?_
    rintro _ w2 ⟨A2, n2, c2, rfl, o3, b2⟩
    have b02 := btr b1 b2 b1.size
    have o4 := o3.low (base' := w.heap.size) b1.size
    have HK2 := Lib.hid (show (l.take (j + 1)).all okQ = true by rw [HA.out, HK.out, hk]; rfl)
    clear x0 x1 hX o2 o3
    go_wp2_with fail
    go_roundw
    case rel => exact ⟨j + 1, A2, n2, c2, by omega, by go_num, rfl, by rw [HT.out]; exact o4, HK2, b02⟩
    case measure => simp [intOf]; omega
  ·have e2 : decide ((j : Int) < n) = false := decide_eq_false (by omega)
   have HL := Lib.hid (show l.take j = l from List.take_of_length_le (by have := HN.out; omega))
   have HE := Lib.hid (show putPs l = (pfxB l, 0) by
    have := HK.out
    rw [HL.out] at this
    unfold putPs
    rw [if_pos this])
   go_wp2_with fail
   go_ret2
   rw [HE.out]
   exact ⟨A1, m1, c1, rfl, by rw [← HL.out]; exact o1, hb⟩
set_option maxHeartbeats 2000000 in
set_option maxRecDepth 100000 in
theorem updBody (A : Option Addr) (n c : Nat) (g : List UInt8) (A1 : Option Addr) (n1 c1 : Nat) (s : List UInt8) (A2 : Option Addr) (n2 c2 : Nat) (m : List UInt8) (w : World) (h : BS w w.heap.size A n g) (h1 : BS w w.heap.size A1 n1 s) (h2 : BS w w.heap.size A2 n2 m) (hn : n ≤ 100000 ∧ n1 ≤ 100000 ∧ n2 ≤ 100000) :
  Calls Tryz.prog 82 #[.slice A n c, .slice A1 n1 c1, .slice A2 n2 c2] w (RetB w 5 (updB g s m)) := by
 have HG := Lib.hid h.len
 have HS := Lib.hid h1.len
 have HM := Lib.hid h2.len
 have HB := Lib.hid (show updB g s m = b16 (n : Int) ++ g ++ b16 (n1 : Int) ++ s ++ m by unfold updB; rw [HG.out, HS.out])
 go_enter Tryz.func82, Tryz.ntmps82
 go_wp2_with fail
 refine (octetPut16 none 0 0 [] n _ BS.none_ (by simp)).mono ?_
 rw [List.nil_append]
 rintro _ w1 ⟨A3, n3, c3, rfl, o3, b1⟩
 have g1 := h.below b1
 go_wp2_with (at_builtin; refine wpl_app rfl (.tmp 10) (.tmp 11) _ rfl 5 Tryz.underlying38 u8info w.heap.size A3 n3 c3 _ (by rfl) o3 w.heap.size A n c g (by rfl) g1 (by have := HG.out; simp [b16]; omega) b1.size ?_; intro A4 n4 c4 w4 o4 b4 g4)
 have b04 := b1.trans b4
 have s4 := h1.below b04
 refine (octetPut16 A4 n4 c4 _ n1 _ o4.bs (by have := HG.out; simp [b16]; omega)).mono ?_
 rintro _ w5 ⟨A5, n5, c5, rfl, o5, b5⟩
 have b05 := btr b04 b5 b04.size
 have s5 := h1.below b05
 have o5' := o5.low (base' := w.heap.size) b04.size
 go_wp2_with (first
  | (at_builtin; refine wpl_app rfl (.tmp 16) (.tmp 17) _ rfl 5 Tryz.underlying38 u8info w.heap.size A5 n5 c5 _ (by rfl) o5' w.heap.size A1 n1 c1 s (by rfl) s5 (by have := HG.out; have := HS.out; simp [b16]; omega) b05.size ?_; intro A6 n6 c6 w6 o6 b6 g6; have b06 := b05.trans b6; have m6 := h2.below b06)
  | (at_builtin; refine wpl_app rfl (.tmp 19) (.tmp 20) _ rfl 5 Tryz.underlying38 u8info w.heap.size A6 n6 c6 _ (by rfl) o6 w.heap.size A2 n2 c2 m (by rfl) m6 (by have := HG.out; have := HS.out; have := HM.out; simp [b16]; omega) b06.size ?_; intro A7 n7 c7 w7 o7 b7 g7))
 have b07 := b06.trans b7
 go_ret
 exact ⟨A7, n7, c7, rfl, by rw [HB.out]; exact o7, b07⟩
/-- A body's parts, and an error's number. -/
def RetParts (w : World) (g s m : List UInt8) (x : Int) (e : Ending) (w' : World) : Prop :=
 ∃ (A : Option Addr) (n c : Nat) (A1 : Option Addr) (n1 c1 : Nat) (A2 : Option Addr) (n2 c2 : Nat), e = .returned (.tuple #[.slice A n c, .slice A1 n1 c1, .slice A2 n2 c2, .int .i64 x]) ∧ BS w' w'.heap.size A n g ∧ BS w' w'.heap.size A1 n1 s ∧ BS w' w'.heap.size A2 n2 m ∧ Below w.heap.size w w'
def updPartsV (wide : Bool) (u : Upd) : List UInt8 × List UInt8 × List UInt8 × Int := if updOk u = true then (pfxB u.gone, saidB wide u, pfxB u.news, 0) else ([], [], [], 1)
theorem putPs_no {l : List Pfx} (h : l.all okQ = false) : putPs l = ([], 1) := by unfold putPs; rw [if_neg (by rw [h]; decide)]
theorem putPs_yes {l : List Pfx} (h : l.all okQ = true) : putPs l = (pfxB l, 0) := by unfold putPs; rw [if_pos h]
theorem attPutU (o : Int) (A : Option Addr) (n c : Nat) (path : List Seg) (nx md pf : Int) (at_ ha : Bool) (gs ga : Int) (A1 : Option Addr) (n1 c1 : Nat) (comms : List Int) (A2 : Option Addr) (n2 c2 : Nat) (raws : List RawV) (w : World) (hp : DL rSeg 2 w (Lo w) A n path) (hc : NF w (Lo w) A1 n1 comms) (hd : DL rRaw 3 w (Lo w) A2 n2 raws) (hn : n ≤ 12) (hs : Hid (sumN path ≤ big32)) (hn2 : n2 ≤ 100000) (ht : LookTab w) (hw : Hid (0 ≤ nx ∧ nx < 4294967296 ∧ 0 ≤ gs ∧ gs < 4294967296 ∧ 0 ≤ ga ∧ ga < 4294967296)) :
  Calls Tryz.prog 135 #[.agg #[.int .i64 o, .slice A n c, .int .u32 nx, .int .i64 md, .int .i64 pf, .bool at_, .bool ha, .int .u32 gs, .int .u32 ga, .slice A1 n1 c1, .slice A2 n2 c2], .bool true] w (RetPE w (putAt true (⟨o, path, nx, md, pf, at_, ha, gs, ga, comms, raws⟩ : At))) := by
 have hgo : 1 < w.heap.size := lt_of_cell (ht 0 (by omega)).1
 exact attPut_wide o A n c path nx md pf at_ ha gs ga A1 n1 c1 comms A2 n2 c2 raws w hp hc hd hn hs hn2 ht hgo hw
set_option maxHeartbeats 4000000 in
set_option maxRecDepth 100000 in
theorem updParts_g (Ag : Option Addr) (ng cg : Nat) (gone : List Pfx) (o : Int) (A : Option Addr) (n c : Nat) (path : List Seg) (nx md pf : Int) (at_ ha : Bool) (gs ga : Int) (A1 : Option Addr) (n1 c1 : Nat) (comms : List Int) (A2 : Option Addr) (n2 c2 : Nat) (raws : List RawV) (An : Option Addr) (nn cn : Nat) (news : List Pfx) (w : World) (hg : DL rPfx 2 w (Lo w) Ag ng gone) (hp : DL rSeg 2 w (Lo w) A n path) (hc : NF w (Lo w) A1 n1 comms) (hd : DL rRaw 3 w (Lo w) A2 n2 raws) (hm : DL rPfx 2 w (Lo w) An nn news) (hs : Hid (sumN path ≤ big32)) (hw : Hid (0 ≤ nx ∧ nx < 4294967296 ∧ 0 ≤ gs ∧ gs < 4294967296 ∧ 0 ≤ ga ∧ ga < 4294967296)) (hz : n ≤ 12 ∧ n2 ≤ 100000 ∧ ng ≤ 10000 ∧ nn ≤ 10000) (ht : LookTab w) (hg1 : gone.all okQ = false) :
  Calls Tryz.prog 81 #[.agg #[.slice Ag ng cg, .int .i64 o, .slice A n c, .int .u32 nx, .int .i64 md, .int .i64 pf, .bool at_, .bool ha, .int .u32 gs, .int .u32 ga, .slice A1 n1 c1, .slice A2 n2 c2, .slice An nn cn], .bool true] w (RetParts w [] [] [] 1) := by
 have HG := Lib.hid (show ∀ w', DL rPfx 2 w' (Lo w') Ag ng gone → Calls Tryz.prog 134 #[.slice Ag ng cg] w' (RetPut w' [] 1) from fun w' h => by
  have := updPrefixes Ag ng cg gone w' h hz.2.2.1
  rw [putPs_no hg1] at this
  exact this)
 clear hs hw hg1
 obtain ⟨W, hW, hX, b0⟩ := box1c w #[.slice Ag ng cg, .int .i64 o, .slice A n c, .int .u32 nx, .int .i64 md, .int .i64 pf, .bool at_, .bool ha, .int .u32 gs, .int .u32 ga, .slice A1 n1 c1, .slice A2 n2 c2, .slice An nn cn] 77
 go_enter Tryz.func81, Tryz.ntmps81
 go_upto_region 1 with fail
 try rw [hW]
 obtain ⟨q, hq⟩ : ∃ q, w.heap.size = q := ⟨_, rfl⟩
 try rw [hq]
 rw [hq] at hX
 clear hW hq
 have c_hX0 := hX.cell 0
 have c_hX1 := hX.cell 1
 have c_hX2 := hX.cell 2
 have c_hX3 := hX.cell 3
 have c_hX4 := hX.cell 4
 have c_hX5 := hX.cell 5
 have c_hX6 := hX.cell 6
 have c_hX7 := hX.cell 7
 have c_hX8 := hX.cell 8
 have c_hX9 := hX.cell 9
 have c_hX10 := hX.cell 10
 have c_hX11 := hX.cell 11
 have c_hX12 := hX.cell 12
 go_wp2_with fail
 refine (HG.out _ (hg.pfxB5 b0)).mono ?_
 rintro _ w1 ⟨A3, n3, c3, rfl, o3, b1⟩
 clear c_hX0 c_hX1 c_hX2 c_hX3 c_hX4 c_hX5 c_hX6 c_hX7 c_hX8 c_hX9 c_hX10 c_hX11 c_hX12
 have b01 := btr b0 b1 b0.size
 have hX_1 := hX.below b1 hX.lt
 have c_hX0 := hX_1.cell 0
 have c_hX1 := hX_1.cell 1
 have c_hX2 := hX_1.cell 2
 have c_hX3 := hX_1.cell 3
 have c_hX4 := hX_1.cell 4
 have c_hX5 := hX_1.cell 5
 have c_hX6 := hX_1.cell 6
 have c_hX7 := hX_1.cell 7
 have c_hX8 := hX_1.cell 8
 have c_hX9 := hX_1.cell 9
 have c_hX10 := hX_1.cell 10
 have c_hX11 := hX_1.cell 11
 have c_hX12 := hX_1.cell 12
 go_wp2_with fail
 go_returns
 exact ⟨none, 0, 0, none, 0, 0, none, 0, 0, rfl, BS.none_, BS.none_, BS.none_, b01⟩
set_option maxHeartbeats 4000000 in
set_option maxRecDepth 100000 in
theorem updParts_m (Ag : Option Addr) (ng cg : Nat) (gone : List Pfx) (o : Int) (A : Option Addr) (n c : Nat) (path : List Seg) (nx md pf : Int) (at_ ha : Bool) (gs ga : Int) (A1 : Option Addr) (n1 c1 : Nat) (comms : List Int) (A2 : Option Addr) (n2 c2 : Nat) (raws : List RawV) (An : Option Addr) (nn cn : Nat) (news : List Pfx) (w : World) (hg : DL rPfx 2 w (Lo w) Ag ng gone) (hp : DL rSeg 2 w (Lo w) A n path) (hc : NF w (Lo w) A1 n1 comms) (hd : DL rRaw 3 w (Lo w) A2 n2 raws) (hm : DL rPfx 2 w (Lo w) An nn news) (hs : Hid (sumN path ≤ big32)) (hw : Hid (0 ≤ nx ∧ nx < 4294967296 ∧ 0 ≤ gs ∧ gs < 4294967296 ∧ 0 ≤ ga ∧ ga < 4294967296)) (hz : n ≤ 12 ∧ n2 ≤ 100000 ∧ ng ≤ 10000 ∧ nn ≤ 10000) (ht : LookTab w) (hg1 : gone.all okQ = true) (hm1 : news.all okQ = false) :
  Calls Tryz.prog 81 #[.agg #[.slice Ag ng cg, .int .i64 o, .slice A n c, .int .u32 nx, .int .i64 md, .int .i64 pf, .bool at_, .bool ha, .int .u32 gs, .int .u32 ga, .slice A1 n1 c1, .slice A2 n2 c2, .slice An nn cn], .bool true] w (RetParts w [] [] [] 1) := by
 have HG := Lib.hid (show ∀ w', DL rPfx 2 w' (Lo w') Ag ng gone → Calls Tryz.prog 134 #[.slice Ag ng cg] w' (RetPut w' (pfxB gone) 0) from fun w' h => by
  have := updPrefixes Ag ng cg gone w' h hz.2.2.1
  rw [putPs_yes hg1] at this
  exact this)
 have HM := Lib.hid (show ∀ w', DL rPfx 2 w' (Lo w') An nn news → Calls Tryz.prog 134 #[.slice An nn cn] w' (RetPut w' [] 1) from fun w' h => by
  have := updPrefixes An nn cn news w' h hz.2.2.2
  rw [putPs_no hm1] at this
  exact this)
 clear hs hw hg1 hm1
 obtain ⟨W, hW, hX, b0⟩ := box1c w #[.slice Ag ng cg, .int .i64 o, .slice A n c, .int .u32 nx, .int .i64 md, .int .i64 pf, .bool at_, .bool ha, .int .u32 gs, .int .u32 ga, .slice A1 n1 c1, .slice A2 n2 c2, .slice An nn cn] 77
 go_enter Tryz.func81, Tryz.ntmps81
 go_upto_region 1 with fail
 try rw [hW]
 obtain ⟨q, hq⟩ : ∃ q, w.heap.size = q := ⟨_, rfl⟩
 try rw [hq]
 rw [hq] at hX
 clear hW hq
 have c_hX0 := hX.cell 0
 have c_hX1 := hX.cell 1
 have c_hX2 := hX.cell 2
 have c_hX3 := hX.cell 3
 have c_hX4 := hX.cell 4
 have c_hX5 := hX.cell 5
 have c_hX6 := hX.cell 6
 have c_hX7 := hX.cell 7
 have c_hX8 := hX.cell 8
 have c_hX9 := hX.cell 9
 have c_hX10 := hX.cell 10
 have c_hX11 := hX.cell 11
 have c_hX12 := hX.cell 12
 go_wp2_with fail
 refine (HG.out _ (hg.pfxB5 b0)).mono ?_
 rintro _ w1 ⟨A3, n3, c3, rfl, o3, b1⟩
 clear c_hX0 c_hX1 c_hX2 c_hX3 c_hX4 c_hX5 c_hX6 c_hX7 c_hX8 c_hX9 c_hX10 c_hX11 c_hX12
 have b01 := btr b0 b1 b0.size
 have hX_1 := hX.below b1 hX.lt
 have c_hX0 := hX_1.cell 0
 have c_hX1 := hX_1.cell 1
 have c_hX2 := hX_1.cell 2
 have c_hX3 := hX_1.cell 3
 have c_hX4 := hX_1.cell 4
 have c_hX5 := hX_1.cell 5
 have c_hX6 := hX_1.cell 6
 have c_hX7 := hX_1.cell 7
 have c_hX8 := hX_1.cell 8
 have c_hX9 := hX_1.cell 9
 have c_hX10 := hX_1.cell 10
 have c_hX11 := hX_1.cell 11
 have c_hX12 := hX_1.cell 12
 go_wp2_with fail
 refine (HM.out _ (hm.pfxB5 b01)).mono ?_
 rintro _ w2 ⟨A4, n4, c4, rfl, o4, b2⟩
 clear c_hX0 c_hX1 c_hX2 c_hX3 c_hX4 c_hX5 c_hX6 c_hX7 c_hX8 c_hX9 c_hX10 c_hX11 c_hX12
 have b02 := btr b01 b2 b01.size
 have hX_2 := hX_1.below b2 hX_1.lt
 clear hX_1
 have c_hX0 := hX_2.cell 0
 have c_hX1 := hX_2.cell 1
 have c_hX2 := hX_2.cell 2
 have c_hX3 := hX_2.cell 3
 have c_hX4 := hX_2.cell 4
 have c_hX5 := hX_2.cell 5
 have c_hX6 := hX_2.cell 6
 have c_hX7 := hX_2.cell 7
 have c_hX8 := hX_2.cell 8
 have c_hX9 := hX_2.cell 9
 have c_hX10 := hX_2.cell 10
 have c_hX11 := hX_2.cell 11
 have c_hX12 := hX_2.cell 12
 go_wp2_with fail
 go_returns
 exact ⟨none, 0, 0, none, 0, 0, none, 0, 0, rfl, BS.none_, BS.none_, BS.none_, b02⟩
set_option maxHeartbeats 4000000 in
set_option maxRecDepth 100000 in
theorem updParts_0 (Ag : Option Addr) (ng cg : Nat) (gone : List Pfx) (o : Int) (A : Option Addr) (n c : Nat) (path : List Seg) (nx md pf : Int) (at_ ha : Bool) (gs ga : Int) (A1 : Option Addr) (n1 c1 : Nat) (comms : List Int) (A2 : Option Addr) (n2 c2 : Nat) (raws : List RawV) (An : Option Addr) (nn cn : Nat) (news : List Pfx) (w : World) (hg : DL rPfx 2 w (Lo w) Ag ng gone) (hp : DL rSeg 2 w (Lo w) A n path) (hc : NF w (Lo w) A1 n1 comms) (hd : DL rRaw 3 w (Lo w) A2 n2 raws) (hm : DL rPfx 2 w (Lo w) An nn news) (hs : Hid (sumN path ≤ big32)) (hw : Hid (0 ≤ nx ∧ nx < 4294967296 ∧ 0 ≤ gs ∧ gs < 4294967296 ∧ 0 ≤ ga ∧ ga < 4294967296)) (hz : n ≤ 12 ∧ n2 ≤ 100000 ∧ ng ≤ 10000 ∧ nn ≤ 10000) (ht : LookTab w) (hg1 : gone.all okQ = true) (hm1 : news.all okQ = true) (hn0 : news.length = 0) :
  Calls Tryz.prog 81 #[.agg #[.slice Ag ng cg, .int .i64 o, .slice A n c, .int .u32 nx, .int .i64 md, .int .i64 pf, .bool at_, .bool ha, .int .u32 gs, .int .u32 ga, .slice A1 n1 c1, .slice A2 n2 c2, .slice An nn cn], .bool true] w (RetParts w (pfxB gone) [] (pfxB news) 0) := by
 have tz : decide (0 < nn) = false := decide_eq_false (by have := hm.len; omega)
 have HG := Lib.hid (show ∀ w', DL rPfx 2 w' (Lo w') Ag ng gone → Calls Tryz.prog 134 #[.slice Ag ng cg] w' (RetPut w' (pfxB gone) 0) from fun w' h => by
  have := updPrefixes Ag ng cg gone w' h hz.2.2.1
  rw [putPs_yes hg1] at this
  exact this)
 have HM := Lib.hid (show ∀ w', DL rPfx 2 w' (Lo w') An nn news → Calls Tryz.prog 134 #[.slice An nn cn] w' (RetPut w' (pfxB news) 0) from fun w' h => by
  have := updPrefixes An nn cn news w' h hz.2.2.2
  rw [putPs_yes hm1] at this
  exact this)
 clear hs hw hg1 hm1
 obtain ⟨W, hW, hX, b0⟩ := box1c w #[.slice Ag ng cg, .int .i64 o, .slice A n c, .int .u32 nx, .int .i64 md, .int .i64 pf, .bool at_, .bool ha, .int .u32 gs, .int .u32 ga, .slice A1 n1 c1, .slice A2 n2 c2, .slice An nn cn] 77
 go_enter Tryz.func81, Tryz.ntmps81
 go_upto_region 1 with fail
 try rw [hW]
 obtain ⟨q, hq⟩ : ∃ q, w.heap.size = q := ⟨_, rfl⟩
 try rw [hq]
 rw [hq] at hX
 clear hW hq
 have c_hX0 := hX.cell 0
 have c_hX1 := hX.cell 1
 have c_hX2 := hX.cell 2
 have c_hX3 := hX.cell 3
 have c_hX4 := hX.cell 4
 have c_hX5 := hX.cell 5
 have c_hX6 := hX.cell 6
 have c_hX7 := hX.cell 7
 have c_hX8 := hX.cell 8
 have c_hX9 := hX.cell 9
 have c_hX10 := hX.cell 10
 have c_hX11 := hX.cell 11
 have c_hX12 := hX.cell 12
 go_wp2_with fail
 refine (HG.out _ (hg.pfxB5 b0)).mono ?_
 rintro _ w1 ⟨A3, n3, c3, rfl, o3, b1⟩
 clear c_hX0 c_hX1 c_hX2 c_hX3 c_hX4 c_hX5 c_hX6 c_hX7 c_hX8 c_hX9 c_hX10 c_hX11 c_hX12
 have b01 := btr b0 b1 b0.size
 have hX_1 := hX.below b1 hX.lt
 have c_hX0 := hX_1.cell 0
 have c_hX1 := hX_1.cell 1
 have c_hX2 := hX_1.cell 2
 have c_hX3 := hX_1.cell 3
 have c_hX4 := hX_1.cell 4
 have c_hX5 := hX_1.cell 5
 have c_hX6 := hX_1.cell 6
 have c_hX7 := hX_1.cell 7
 have c_hX8 := hX_1.cell 8
 have c_hX9 := hX_1.cell 9
 have c_hX10 := hX_1.cell 10
 have c_hX11 := hX_1.cell 11
 have c_hX12 := hX_1.cell 12
 have s3 := o3.bs
 go_wp2_with fail
 refine (HM.out _ (hm.pfxB5 b01)).mono ?_
 rintro _ w2 ⟨A4, n4, c4, rfl, o4, b2⟩
 clear c_hX0 c_hX1 c_hX2 c_hX3 c_hX4 c_hX5 c_hX6 c_hX7 c_hX8 c_hX9 c_hX10 c_hX11 c_hX12
 have b02 := btr b01 b2 b01.size
 have hX_2 := hX_1.below b2 hX_1.lt
 clear hX_1
 have s3_2 := s3.call b2
 have c_hX0 := hX_2.cell 0
 have c_hX1 := hX_2.cell 1
 have c_hX2 := hX_2.cell 2
 have c_hX3 := hX_2.cell 3
 have c_hX4 := hX_2.cell 4
 have c_hX5 := hX_2.cell 5
 have c_hX6 := hX_2.cell 6
 have c_hX7 := hX_2.cell 7
 have c_hX8 := hX_2.cell 8
 have c_hX9 := hX_2.cell 9
 have c_hX10 := hX_2.cell 10
 have c_hX11 := hX_2.cell 11
 have c_hX12 := hX_2.cell 12
 have s4 := o4.bs
 go_wp2_with fail
 go_returns
 exact ⟨A3, n3, c3, none, 0, 0, A4, n4, c4, rfl, s3_2, BS.none_, s4, b02⟩
set_option maxHeartbeats 4000000 in
set_option maxRecDepth 100000 in
theorem updParts_r (Ag : Option Addr) (ng cg : Nat) (gone : List Pfx) (o : Int) (A : Option Addr) (n c : Nat) (path : List Seg) (nx md pf : Int) (at_ ha : Bool) (gs ga : Int) (A1 : Option Addr) (n1 c1 : Nat) (comms : List Int) (A2 : Option Addr) (n2 c2 : Nat) (raws : List RawV) (An : Option Addr) (nn cn : Nat) (news : List Pfx) (w : World) (hg : DL rPfx 2 w (Lo w) Ag ng gone) (hp : DL rSeg 2 w (Lo w) A n path) (hc : NF w (Lo w) A1 n1 comms) (hd : DL rRaw 3 w (Lo w) A2 n2 raws) (hm : DL rPfx 2 w (Lo w) An nn news) (hs : Hid (sumN path ≤ big32)) (hw : Hid (0 ≤ nx ∧ nx < 4294967296 ∧ 0 ≤ gs ∧ gs < 4294967296 ∧ 0 ≤ ga ∧ ga < 4294967296)) (hz : n ≤ 12 ∧ n2 ≤ 100000 ∧ ng ≤ 10000 ∧ nn ≤ 10000) (ht : LookTab w) (hg1 : gone.all okQ = true) (hm1 : news.all okQ = true) (hn0 : ¬ news.length = 0) (hr1 : rightAt (⟨o, path, nx, md, pf, at_, ha, gs, ga, comms, raws⟩ : At) = false) :
  Calls Tryz.prog 81 #[.agg #[.slice Ag ng cg, .int .i64 o, .slice A n c, .int .u32 nx, .int .i64 md, .int .i64 pf, .bool at_, .bool ha, .int .u32 gs, .int .u32 ga, .slice A1 n1 c1, .slice A2 n2 c2, .slice An nn cn], .bool true] w (RetParts w [] [] [] 1) := by
 have tz : decide (0 < nn) = true := decide_eq_true (by have := hm.len; omega)
 have HG := Lib.hid (show ∀ w', DL rPfx 2 w' (Lo w') Ag ng gone → Calls Tryz.prog 134 #[.slice Ag ng cg] w' (RetPut w' (pfxB gone) 0) from fun w' h => by
  have := updPrefixes Ag ng cg gone w' h hz.2.2.1
  rw [putPs_yes hg1] at this
  exact this)
 have HM := Lib.hid (show ∀ w', DL rPfx 2 w' (Lo w') An nn news → Calls Tryz.prog 134 #[.slice An nn cn] w' (RetPut w' (pfxB news) 0) from fun w' h => by
  have := updPrefixes An nn cn news w' h hz.2.2.2
  rw [putPs_yes hm1] at this
  exact this)
 have HP := Lib.hid (show ∀ w', DL rSeg 2 w' (Lo w') A n path → NF w' (Lo w') A1 n1 comms → DL rRaw 3 w' (Lo w') A2 n2 raws → LookTab w' → Calls Tryz.prog 135 #[.agg #[.int .i64 o, .slice A n c, .int .u32 nx, .int .i64 md, .int .i64 pf, .bool at_, .bool ha, .int .u32 gs, .int .u32 ga, .slice A1 n1 c1, .slice A2 n2 c2], .bool true] w' (RetPE w' ([], 1)) from fun w' h1 h2 h3 h4 => by
  have := attPutU o A n c path nx md pf at_ ha gs ga A1 n1 c1 comms A2 n2 c2 raws w' h1 h2 h3 hz.1 hs hz.2.1 h4 hw
  rw [show putAt true (⟨o, path, nx, md, pf, at_, ha, gs, ga, comms, raws⟩ : At) = ([], 1) from if_neg (by rw [hr1]; decide)] at this
  exact this)
 clear hs hw hg1 hm1 hn0 hr1
 obtain ⟨W, hW, hX, b0⟩ := box1c w #[.slice Ag ng cg, .int .i64 o, .slice A n c, .int .u32 nx, .int .i64 md, .int .i64 pf, .bool at_, .bool ha, .int .u32 gs, .int .u32 ga, .slice A1 n1 c1, .slice A2 n2 c2, .slice An nn cn] 77
 go_enter Tryz.func81, Tryz.ntmps81
 go_upto_region 1 with fail
 try rw [hW]
 obtain ⟨q, hq⟩ : ∃ q, w.heap.size = q := ⟨_, rfl⟩
 try rw [hq]
 rw [hq] at hX
 clear hW hq
 have c_hX0 := hX.cell 0
 have c_hX1 := hX.cell 1
 have c_hX2 := hX.cell 2
 have c_hX3 := hX.cell 3
 have c_hX4 := hX.cell 4
 have c_hX5 := hX.cell 5
 have c_hX6 := hX.cell 6
 have c_hX7 := hX.cell 7
 have c_hX8 := hX.cell 8
 have c_hX9 := hX.cell 9
 have c_hX10 := hX.cell 10
 have c_hX11 := hX.cell 11
 have c_hX12 := hX.cell 12
 go_wp2_with fail
 refine (HG.out _ (hg.pfxB5 b0)).mono ?_
 rintro _ w1 ⟨A3, n3, c3, rfl, o3, b1⟩
 clear c_hX0 c_hX1 c_hX2 c_hX3 c_hX4 c_hX5 c_hX6 c_hX7 c_hX8 c_hX9 c_hX10 c_hX11 c_hX12
 have b01 := btr b0 b1 b0.size
 have hX_1 := hX.below b1 hX.lt
 have c_hX0 := hX_1.cell 0
 have c_hX1 := hX_1.cell 1
 have c_hX2 := hX_1.cell 2
 have c_hX3 := hX_1.cell 3
 have c_hX4 := hX_1.cell 4
 have c_hX5 := hX_1.cell 5
 have c_hX6 := hX_1.cell 6
 have c_hX7 := hX_1.cell 7
 have c_hX8 := hX_1.cell 8
 have c_hX9 := hX_1.cell 9
 have c_hX10 := hX_1.cell 10
 have c_hX11 := hX_1.cell 11
 have c_hX12 := hX_1.cell 12
 go_wp2_with fail
 refine (HM.out _ (hm.pfxB5 b01)).mono ?_
 rintro _ w2 ⟨A4, n4, c4, rfl, o4, b2⟩
 clear c_hX0 c_hX1 c_hX2 c_hX3 c_hX4 c_hX5 c_hX6 c_hX7 c_hX8 c_hX9 c_hX10 c_hX11 c_hX12
 have b02 := btr b01 b2 b01.size
 have hX_2 := hX_1.below b2 hX_1.lt
 clear hX_1
 have c_hX0 := hX_2.cell 0
 have c_hX1 := hX_2.cell 1
 have c_hX2 := hX_2.cell 2
 have c_hX3 := hX_2.cell 3
 have c_hX4 := hX_2.cell 4
 have c_hX5 := hX_2.cell 5
 have c_hX6 := hX_2.cell 6
 have c_hX7 := hX_2.cell 7
 have c_hX8 := hX_2.cell 8
 have c_hX9 := hX_2.cell 9
 have c_hX10 := hX_2.cell 10
 have c_hX11 := hX_2.cell 11
 have c_hX12 := hX_2.cell 12
 go_wp2_with fail
 refine (HP.out _ (hp.segB5 b02) (hc.numB5 b02) (hd.rawB5 b02) (ht.call b02)).mono ?_
 rintro _ w3 ⟨A5, n5, c5, rfl, o5, b3⟩
 clear c_hX0 c_hX1 c_hX2 c_hX3 c_hX4 c_hX5 c_hX6 c_hX7 c_hX8 c_hX9 c_hX10 c_hX11 c_hX12
 have b03 := btr b02 b3 b02.size
 have hX_3 := hX_2.below b3 hX_2.lt
 clear hX_2
 have c_hX0 := hX_3.cell 0
 have c_hX1 := hX_3.cell 1
 have c_hX2 := hX_3.cell 2
 have c_hX3 := hX_3.cell 3
 have c_hX4 := hX_3.cell 4
 have c_hX5 := hX_3.cell 5
 have c_hX6 := hX_3.cell 6
 have c_hX7 := hX_3.cell 7
 have c_hX8 := hX_3.cell 8
 have c_hX9 := hX_3.cell 9
 have c_hX10 := hX_3.cell 10
 have c_hX11 := hX_3.cell 11
 have c_hX12 := hX_3.cell 12
 go_wp2_with fail
 go_returns
 exact ⟨none, 0, 0, none, 0, 0, none, 0, 0, rfl, BS.none_, BS.none_, BS.none_, b03⟩
set_option maxHeartbeats 4000000 in
set_option maxRecDepth 100000 in
theorem updParts_1 (Ag : Option Addr) (ng cg : Nat) (gone : List Pfx) (o : Int) (A : Option Addr) (n c : Nat) (path : List Seg) (nx md pf : Int) (at_ ha : Bool) (gs ga : Int) (A1 : Option Addr) (n1 c1 : Nat) (comms : List Int) (A2 : Option Addr) (n2 c2 : Nat) (raws : List RawV) (An : Option Addr) (nn cn : Nat) (news : List Pfx) (w : World) (hg : DL rPfx 2 w (Lo w) Ag ng gone) (hp : DL rSeg 2 w (Lo w) A n path) (hc : NF w (Lo w) A1 n1 comms) (hd : DL rRaw 3 w (Lo w) A2 n2 raws) (hm : DL rPfx 2 w (Lo w) An nn news) (hs : Hid (sumN path ≤ big32)) (hw : Hid (0 ≤ nx ∧ nx < 4294967296 ∧ 0 ≤ gs ∧ gs < 4294967296 ∧ 0 ≤ ga ∧ ga < 4294967296)) (hz : n ≤ 12 ∧ n2 ≤ 100000 ∧ ng ≤ 10000 ∧ nn ≤ 10000) (ht : LookTab w) (hg1 : gone.all okQ = true) (hm1 : news.all okQ = true) (hn0 : ¬ news.length = 0) (hr1 : rightAt (⟨o, path, nx, md, pf, at_, ha, gs, ga, comms, raws⟩ : At) = true) :
  Calls Tryz.prog 81 #[.agg #[.slice Ag ng cg, .int .i64 o, .slice A n c, .int .u32 nx, .int .i64 md, .int .i64 pf, .bool at_, .bool ha, .int .u32 gs, .int .u32 ga, .slice A1 n1 c1, .slice A2 n2 c2, .slice An nn cn], .bool true] w (RetParts w (pfxB gone) (attsB true (⟨o, path, nx, md, pf, at_, ha, gs, ga, comms, raws⟩ : At)) (pfxB news) 0) := by
 have tz : decide (0 < nn) = true := decide_eq_true (by have := hm.len; omega)
 have HG := Lib.hid (show ∀ w', DL rPfx 2 w' (Lo w') Ag ng gone → Calls Tryz.prog 134 #[.slice Ag ng cg] w' (RetPut w' (pfxB gone) 0) from fun w' h => by
  have := updPrefixes Ag ng cg gone w' h hz.2.2.1
  rw [putPs_yes hg1] at this
  exact this)
 have HM := Lib.hid (show ∀ w', DL rPfx 2 w' (Lo w') An nn news → Calls Tryz.prog 134 #[.slice An nn cn] w' (RetPut w' (pfxB news) 0) from fun w' h => by
  have := updPrefixes An nn cn news w' h hz.2.2.2
  rw [putPs_yes hm1] at this
  exact this)
 have HP := Lib.hid (show ∀ w', DL rSeg 2 w' (Lo w') A n path → NF w' (Lo w') A1 n1 comms → DL rRaw 3 w' (Lo w') A2 n2 raws → LookTab w' → Calls Tryz.prog 135 #[.agg #[.int .i64 o, .slice A n c, .int .u32 nx, .int .i64 md, .int .i64 pf, .bool at_, .bool ha, .int .u32 gs, .int .u32 ga, .slice A1 n1 c1, .slice A2 n2 c2], .bool true] w' (RetPE w' (attsB true (⟨o, path, nx, md, pf, at_, ha, gs, ga, comms, raws⟩ : At), 0)) from fun w' h1 h2 h3 h4 => by
  have := attPutU o A n c path nx md pf at_ ha gs ga A1 n1 c1 comms A2 n2 c2 raws w' h1 h2 h3 hz.1 hs hz.2.1 h4 hw
  rw [show putAt true (⟨o, path, nx, md, pf, at_, ha, gs, ga, comms, raws⟩ : At) = (attsB true (⟨o, path, nx, md, pf, at_, ha, gs, ga, comms, raws⟩ : At), 0) from if_pos hr1] at this
  exact this)
 clear hs hw hg1 hm1 hn0 hr1
 obtain ⟨W, hW, hX, b0⟩ := box1c w #[.slice Ag ng cg, .int .i64 o, .slice A n c, .int .u32 nx, .int .i64 md, .int .i64 pf, .bool at_, .bool ha, .int .u32 gs, .int .u32 ga, .slice A1 n1 c1, .slice A2 n2 c2, .slice An nn cn] 77
 go_enter Tryz.func81, Tryz.ntmps81
 go_upto_region 1 with fail
 try rw [hW]
 obtain ⟨q, hq⟩ : ∃ q, w.heap.size = q := ⟨_, rfl⟩
 try rw [hq]
 rw [hq] at hX
 clear hW hq
 have c_hX0 := hX.cell 0
 have c_hX1 := hX.cell 1
 have c_hX2 := hX.cell 2
 have c_hX3 := hX.cell 3
 have c_hX4 := hX.cell 4
 have c_hX5 := hX.cell 5
 have c_hX6 := hX.cell 6
 have c_hX7 := hX.cell 7
 have c_hX8 := hX.cell 8
 have c_hX9 := hX.cell 9
 have c_hX10 := hX.cell 10
 have c_hX11 := hX.cell 11
 have c_hX12 := hX.cell 12
 go_wp2_with fail
 refine (HG.out _ (hg.pfxB5 b0)).mono ?_
 rintro _ w1 ⟨A3, n3, c3, rfl, o3, b1⟩
 clear c_hX0 c_hX1 c_hX2 c_hX3 c_hX4 c_hX5 c_hX6 c_hX7 c_hX8 c_hX9 c_hX10 c_hX11 c_hX12
 have b01 := btr b0 b1 b0.size
 have hX_1 := hX.below b1 hX.lt
 have c_hX0 := hX_1.cell 0
 have c_hX1 := hX_1.cell 1
 have c_hX2 := hX_1.cell 2
 have c_hX3 := hX_1.cell 3
 have c_hX4 := hX_1.cell 4
 have c_hX5 := hX_1.cell 5
 have c_hX6 := hX_1.cell 6
 have c_hX7 := hX_1.cell 7
 have c_hX8 := hX_1.cell 8
 have c_hX9 := hX_1.cell 9
 have c_hX10 := hX_1.cell 10
 have c_hX11 := hX_1.cell 11
 have c_hX12 := hX_1.cell 12
 have s3 := o3.bs
 go_wp2_with fail
 refine (HM.out _ (hm.pfxB5 b01)).mono ?_
 rintro _ w2 ⟨A4, n4, c4, rfl, o4, b2⟩
 clear c_hX0 c_hX1 c_hX2 c_hX3 c_hX4 c_hX5 c_hX6 c_hX7 c_hX8 c_hX9 c_hX10 c_hX11 c_hX12
 have b02 := btr b01 b2 b01.size
 have hX_2 := hX_1.below b2 hX_1.lt
 clear hX_1
 have s3_2 := s3.call b2
 have c_hX0 := hX_2.cell 0
 have c_hX1 := hX_2.cell 1
 have c_hX2 := hX_2.cell 2
 have c_hX3 := hX_2.cell 3
 have c_hX4 := hX_2.cell 4
 have c_hX5 := hX_2.cell 5
 have c_hX6 := hX_2.cell 6
 have c_hX7 := hX_2.cell 7
 have c_hX8 := hX_2.cell 8
 have c_hX9 := hX_2.cell 9
 have c_hX10 := hX_2.cell 10
 have c_hX11 := hX_2.cell 11
 have c_hX12 := hX_2.cell 12
 have s4 := o4.bs
 go_wp2_with fail
 refine (HP.out _ (hp.segB5 b02) (hc.numB5 b02) (hd.rawB5 b02) (ht.call b02)).mono ?_
 rintro _ w3 ⟨A5, n5, c5, rfl, o5, b3⟩
 clear c_hX0 c_hX1 c_hX2 c_hX3 c_hX4 c_hX5 c_hX6 c_hX7 c_hX8 c_hX9 c_hX10 c_hX11 c_hX12
 have b03 := btr b02 b3 b02.size
 have hX_3 := hX_2.below b3 hX_2.lt
 clear hX_2
 have s3_3 := s3_2.call b3
 clear s3_2
 have s4_3 := s4.call b3
 have c_hX0 := hX_3.cell 0
 have c_hX1 := hX_3.cell 1
 have c_hX2 := hX_3.cell 2
 have c_hX3 := hX_3.cell 3
 have c_hX4 := hX_3.cell 4
 have c_hX5 := hX_3.cell 5
 have c_hX6 := hX_3.cell 6
 have c_hX7 := hX_3.cell 7
 have c_hX8 := hX_3.cell 8
 have c_hX9 := hX_3.cell 9
 have c_hX10 := hX_3.cell 10
 have c_hX11 := hX_3.cell 11
 have c_hX12 := hX_3.cell 12
 have s5 := o5.bs
 go_wp2_with fail
 go_returns
 exact ⟨A3, n3, c3, A5, n5, c5, A4, n4, c4, rfl, s3_3, s5, s4_3, b03⟩
theorem updParts_no (Ag : Option Addr) (ng cg : Nat) (gone : List Pfx) (o : Int) (A : Option Addr) (n c : Nat) (path : List Seg) (nx md pf : Int) (at_ ha : Bool) (gs ga : Int) (A1 : Option Addr) (n1 c1 : Nat) (comms : List Int) (A2 : Option Addr) (n2 c2 : Nat) (raws : List RawV) (An : Option Addr) (nn cn : Nat) (news : List Pfx) (w : World) (hg : DL rPfx 2 w (Lo w) Ag ng gone) (hp : DL rSeg 2 w (Lo w) A n path) (hc : NF w (Lo w) A1 n1 comms) (hd : DL rRaw 3 w (Lo w) A2 n2 raws) (hm : DL rPfx 2 w (Lo w) An nn news) (hs : Hid (sumN path ≤ big32)) (hw : Hid (0 ≤ nx ∧ nx < 4294967296 ∧ 0 ≤ gs ∧ gs < 4294967296 ∧ 0 ≤ ga ∧ ga < 4294967296)) (hz : n ≤ 12 ∧ n2 ≤ 100000 ∧ ng ≤ 10000 ∧ nn ≤ 10000) (ht : LookTab w) (hk : updOk (⟨gone, ⟨o, path, nx, md, pf, at_, ha, gs, ga, comms, raws⟩, news⟩ : Upd) = false) :
  Calls Tryz.prog 81 #[.agg #[.slice Ag ng cg, .int .i64 o, .slice A n c, .int .u32 nx, .int .i64 md, .int .i64 pf, .bool at_, .bool ha, .int .u32 gs, .int .u32 ga, .slice A1 n1 c1, .slice A2 n2 c2, .slice An nn cn], .bool true] w (RetParts w [] [] [] 1) := by
 unfold updOk at hk
 cases hg1 : gone.all okQ
 ·exact updParts_g Ag ng cg gone o A n c path nx md pf at_ ha gs ga A1 n1 c1 comms A2 n2 c2 raws An nn cn news w hg hp hc hd hm hs hw hz ht hg1
 cases hm1 : news.all okQ
 ·exact updParts_m Ag ng cg gone o A n c path nx md pf at_ ha gs ga A1 n1 c1 comms A2 n2 c2 raws An nn cn news w hg hp hc hd hm hs hw hz ht hg1 hm1
 simp only [hg1, hm1, Bool.true_and, Bool.or_eq_false_iff, decide_eq_false_iff_not] at hk
 exact updParts_r Ag ng cg gone o A n c path nx md pf at_ ha gs ga A1 n1 c1 comms A2 n2 c2 raws An nn cn news w hg hp hc hd hm hs hw hz ht hg1 hm1 hk.1 hk.2
theorem updParts_yes (Ag : Option Addr) (ng cg : Nat) (gone : List Pfx) (o : Int) (A : Option Addr) (n c : Nat) (path : List Seg) (nx md pf : Int) (at_ ha : Bool) (gs ga : Int) (A1 : Option Addr) (n1 c1 : Nat) (comms : List Int) (A2 : Option Addr) (n2 c2 : Nat) (raws : List RawV) (An : Option Addr) (nn cn : Nat) (news : List Pfx) (w : World) (hg : DL rPfx 2 w (Lo w) Ag ng gone) (hp : DL rSeg 2 w (Lo w) A n path) (hc : NF w (Lo w) A1 n1 comms) (hd : DL rRaw 3 w (Lo w) A2 n2 raws) (hm : DL rPfx 2 w (Lo w) An nn news) (hs : Hid (sumN path ≤ big32)) (hw : Hid (0 ≤ nx ∧ nx < 4294967296 ∧ 0 ≤ gs ∧ gs < 4294967296 ∧ 0 ≤ ga ∧ ga < 4294967296)) (hz : n ≤ 12 ∧ n2 ≤ 100000 ∧ ng ≤ 10000 ∧ nn ≤ 10000) (ht : LookTab w) (hk : updOk (⟨gone, ⟨o, path, nx, md, pf, at_, ha, gs, ga, comms, raws⟩, news⟩ : Upd) = true) :
  Calls Tryz.prog 81 #[.agg #[.slice Ag ng cg, .int .i64 o, .slice A n c, .int .u32 nx, .int .i64 md, .int .i64 pf, .bool at_, .bool ha, .int .u32 gs, .int .u32 ga, .slice A1 n1 c1, .slice A2 n2 c2, .slice An nn cn], .bool true] w (RetParts w (pfxB gone) (saidB true (⟨gone, ⟨o, path, nx, md, pf, at_, ha, gs, ga, comms, raws⟩, news⟩ : Upd)) (pfxB news) 0) := by
 unfold updOk at hk
 simp only [Bool.and_eq_true, Bool.or_eq_true, decide_eq_true_eq] at hk
 obtain ⟨⟨hg1, hm1⟩, hr1⟩ := hk
 unfold saidB
 by_cases hn0 : news.length = 0
 ·rw [if_pos hn0]
  exact updParts_0 Ag ng cg gone o A n c path nx md pf at_ ha gs ga A1 n1 c1 comms A2 n2 c2 raws An nn cn news w hg hp hc hd hm hs hw hz ht hg1 hm1 hn0
 ·rw [if_neg hn0]
  exact updParts_1 Ag ng cg gone o A n c path nx md pf at_ ha gs ga A1 n1 c1 comms A2 n2 c2 raws An nn cn news w hg hp hc hd hm hs hw hz ht hg1 hm1 hn0 (hr1.resolve_left hn0)
set_option maxHeartbeats 4000000 in
set_option maxRecDepth 100000 in
theorem updPut_no (Ag : Option Addr) (ng cg : Nat) (gone : List Pfx) (o : Int) (A : Option Addr) (n c : Nat) (path : List Seg) (nx md pf : Int) (at_ ha : Bool) (gs ga : Int) (A1 : Option Addr) (n1 c1 : Nat) (comms : List Int) (A2 : Option Addr) (n2 c2 : Nat) (raws : List RawV) (An : Option Addr) (nn cn : Nat) (news : List Pfx) (w : World) (hg : DL rPfx 2 w (Lo w) Ag ng gone) (hp : DL rSeg 2 w (Lo w) A n path) (hc : NF w (Lo w) A1 n1 comms) (hd : DL rRaw 3 w (Lo w) A2 n2 raws) (hm : DL rPfx 2 w (Lo w) An nn news) (hs : Hid (sumN path ≤ big32)) (hw : Hid (0 ≤ nx ∧ nx < 4294967296 ∧ 0 ≤ gs ∧ gs < 4294967296 ∧ 0 ≤ ga ∧ ga < 4294967296)) (hz : n ≤ 12 ∧ n2 ≤ 100000 ∧ ng ≤ 10000 ∧ nn ≤ 10000) (ht : LookTab w) (hk : updOk (⟨gone, ⟨o, path, nx, md, pf, at_, ha, gs, ga, comms, raws⟩, news⟩ : Upd) = false) :
  Calls Tryz.prog 36 #[.agg #[.slice Ag ng cg, .int .i64 o, .slice A n c, .int .u32 nx, .int .i64 md, .int .i64 pf, .bool at_, .bool ha, .int .u32 gs, .int .u32 ga, .slice A1 n1 c1, .slice A2 n2 c2, .slice An nn cn], .bool true] w (RetPut w [] 1) := by
 have HPA := Lib.hid (show ∀ w', DL rPfx 2 w' (Lo w') Ag ng gone → DL rSeg 2 w' (Lo w') A n path → NF w' (Lo w') A1 n1 comms → DL rRaw 3 w' (Lo w') A2 n2 raws → DL rPfx 2 w' (Lo w') An nn news → LookTab w' → Calls Tryz.prog 81 #[.agg #[.slice Ag ng cg, .int .i64 o, .slice A n c, .int .u32 nx, .int .i64 md, .int .i64 pf, .bool at_, .bool ha, .int .u32 gs, .int .u32 ga, .slice A1 n1 c1, .slice A2 n2 c2, .slice An nn cn], .bool true] w' (RetParts w' [] [] [] 1) from fun w' h1 h2 h3 h4 h5 h6 => updParts_no Ag ng cg gone o A n c path nx md pf at_ ha gs ga A1 n1 c1 comms A2 n2 c2 raws An nn cn news w' h1 h2 h3 h4 h5 hs hw hz h6 hk)
 clear hs hw hk
 obtain ⟨W, hW, hX, b0⟩ := box1c w #[.slice Ag ng cg, .int .i64 o, .slice A n c, .int .u32 nx, .int .i64 md, .int .i64 pf, .bool at_, .bool ha, .int .u32 gs, .int .u32 ga, .slice A1 n1 c1, .slice A2 n2 c2, .slice An nn cn] 77
 go_enter Tryz.func36, Tryz.ntmps36
 go_upto_region 1 with fail
 try rw [hW]
 obtain ⟨q, hq⟩ : ∃ q, w.heap.size = q := ⟨_, rfl⟩
 try rw [hq]
 rw [hq] at hX
 clear hW hq
 have c_hX0 := hX.cell 0
 have c_hX1 := hX.cell 1
 have c_hX2 := hX.cell 2
 have c_hX3 := hX.cell 3
 have c_hX4 := hX.cell 4
 have c_hX5 := hX.cell 5
 have c_hX6 := hX.cell 6
 have c_hX7 := hX.cell 7
 have c_hX8 := hX.cell 8
 have c_hX9 := hX.cell 9
 have c_hX10 := hX.cell 10
 have c_hX11 := hX.cell 11
 have c_hX12 := hX.cell 12
 go_wp2_with fail
 refine (HPA.out _ (hg.pfxB5 b0) (hp.segB5 b0) (hc.numB5 b0) (hd.rawB5 b0) (hm.pfxB5 b0) (ht.call b0)).mono ?_
 rintro _ w1 ⟨A3, n3, c3, A4, n4, c4, A5, n5, c5, rfl, s3, s4, s5, b1⟩
 clear c_hX0 c_hX1 c_hX2 c_hX3 c_hX4 c_hX5 c_hX6 c_hX7 c_hX8 c_hX9 c_hX10 c_hX11 c_hX12
 have b01 := btr b0 b1 b0.size
 have hX_1 := hX.below b1 hX.lt
 have c_hX0 := hX_1.cell 0
 have c_hX1 := hX_1.cell 1
 have c_hX2 := hX_1.cell 2
 have c_hX3 := hX_1.cell 3
 have c_hX4 := hX_1.cell 4
 have c_hX5 := hX_1.cell 5
 have c_hX6 := hX_1.cell 6
 have c_hX7 := hX_1.cell 7
 have c_hX8 := hX_1.cell 8
 have c_hX9 := hX_1.cell 9
 have c_hX10 := hX_1.cell 10
 have c_hX11 := hX_1.cell 11
 have c_hX12 := hX_1.cell 12
 go_wp2_with fail
 go_ret2
 exact ⟨none, 0, 0, rfl, OB.nil_, b01⟩
set_option maxHeartbeats 4000000 in
set_option maxRecDepth 100000 in
theorem updPut_yes (Ag : Option Addr) (ng cg : Nat) (gone : List Pfx) (o : Int) (A : Option Addr) (n c : Nat) (path : List Seg) (nx md pf : Int) (at_ ha : Bool) (gs ga : Int) (A1 : Option Addr) (n1 c1 : Nat) (comms : List Int) (A2 : Option Addr) (n2 c2 : Nat) (raws : List RawV) (An : Option Addr) (nn cn : Nat) (news : List Pfx) (w : World) (hg : DL rPfx 2 w (Lo w) Ag ng gone) (hp : DL rSeg 2 w (Lo w) A n path) (hc : NF w (Lo w) A1 n1 comms) (hd : DL rRaw 3 w (Lo w) A2 n2 raws) (hm : DL rPfx 2 w (Lo w) An nn news) (hs : Hid (sumN path ≤ big32)) (hw : Hid (0 ≤ nx ∧ nx < 4294967296 ∧ 0 ≤ gs ∧ gs < 4294967296 ∧ 0 ≤ ga ∧ ga < 4294967296)) (hz : n ≤ 12 ∧ n2 ≤ 100000 ∧ ng ≤ 10000 ∧ nn ≤ 10000) (ht : LookTab w) (hk : updOk (⟨gone, ⟨o, path, nx, md, pf, at_, ha, gs, ga, comms, raws⟩, news⟩ : Upd) = true) (hlen : (saidB true (⟨gone, ⟨o, path, nx, md, pf, at_, ha, gs, ga, comms, raws⟩, news⟩ : Upd)).length ≤ 5000) :
  Calls Tryz.prog 36 #[.agg #[.slice Ag ng cg, .int .i64 o, .slice A n c, .int .u32 nx, .int .i64 md, .int .i64 pf, .bool at_, .bool ha, .int .u32 gs, .int .u32 ga, .slice A1 n1 c1, .slice A2 n2 c2, .slice An nn cn], .bool true] w (RetPut w (updPut true (⟨gone, ⟨o, path, nx, md, pf, at_, ha, gs, ga, comms, raws⟩, news⟩ : Upd)).1 (updPut true (⟨gone, ⟨o, path, nx, md, pf, at_, ha, gs, ga, comms, raws⟩, news⟩ : Upd)).2) := by
 have HPA := Lib.hid (show ∀ w', DL rPfx 2 w' (Lo w') Ag ng gone → DL rSeg 2 w' (Lo w') A n path → NF w' (Lo w') A1 n1 comms → DL rRaw 3 w' (Lo w') A2 n2 raws → DL rPfx 2 w' (Lo w') An nn news → LookTab w' → Calls Tryz.prog 81 #[.agg #[.slice Ag ng cg, .int .i64 o, .slice A n c, .int .u32 nx, .int .i64 md, .int .i64 pf, .bool at_, .bool ha, .int .u32 gs, .int .u32 ga, .slice A1 n1 c1, .slice A2 n2 c2, .slice An nn cn], .bool true] w' (RetParts w' (pfxB gone) (saidB true (⟨gone, ⟨o, path, nx, md, pf, at_, ha, gs, ga, comms, raws⟩, news⟩ : Upd)) (pfxB news) 0) from fun w' h1 h2 h3 h4 h5 h6 => updParts_yes Ag ng cg gone o A n c path nx md pf at_ ha gs ga A1 n1 c1 comms A2 n2 c2 raws An nn cn news w' h1 h2 h3 h4 h5 hs hw hz h6 hk)
 obtain ⟨G, hG⟩ : ∃ x, pfxB gone = x := ⟨_, rfl⟩
 obtain ⟨S, hS⟩ : ∃ x, saidB true (⟨gone, ⟨o, path, nx, md, pf, at_, ha, gs, ga, comms, raws⟩, news⟩ : Upd) = x := ⟨_, rfl⟩
 obtain ⟨M, hM⟩ : ∃ x, pfxB news = x := ⟨_, rfl⟩
 have HLG := Lib.hid (show G.length ≤ 50000 by have h1 := pfxB_len gone; have h2 := hg.len; rw [hG] at h1; omega)
 have HLM := Lib.hid (show M.length ≤ 50000 by have h1 := pfxB_len news; have h2 := hm.len; rw [hM] at h1; omega)
 have HLS := Lib.hid (show S.length ≤ 5000 by rw [← hS]; exact hlen)
 have HV := Lib.hid (show updPut true (⟨gone, ⟨o, path, nx, md, pf, at_, ha, gs, ga, comms, raws⟩, news⟩ : Upd) = if 4077 < G.length + S.length + M.length + 4 then ([], 4) else (updB G S M, 0) by
  unfold updPut updLen
  rw [if_pos hk, ← hG, ← hS, ← hM])
 rw [hG, hS, hM] at HPA
 clear hG hS hM hs hw hk hlen
 obtain ⟨W, hW, hX, b0⟩ := box1c w #[.slice Ag ng cg, .int .i64 o, .slice A n c, .int .u32 nx, .int .i64 md, .int .i64 pf, .bool at_, .bool ha, .int .u32 gs, .int .u32 ga, .slice A1 n1 c1, .slice A2 n2 c2, .slice An nn cn] 77
 go_enter Tryz.func36, Tryz.ntmps36
 go_upto_region 1 with fail
 try rw [hW]
 obtain ⟨q, hq⟩ : ∃ q, w.heap.size = q := ⟨_, rfl⟩
 try rw [hq]
 rw [hq] at hX
 clear hW hq
 have c_hX0 := hX.cell 0
 have c_hX1 := hX.cell 1
 have c_hX2 := hX.cell 2
 have c_hX3 := hX.cell 3
 have c_hX4 := hX.cell 4
 have c_hX5 := hX.cell 5
 have c_hX6 := hX.cell 6
 have c_hX7 := hX.cell 7
 have c_hX8 := hX.cell 8
 have c_hX9 := hX.cell 9
 have c_hX10 := hX.cell 10
 have c_hX11 := hX.cell 11
 have c_hX12 := hX.cell 12
 go_wp2_with fail
 refine (HPA.out _ (hg.pfxB5 b0) (hp.segB5 b0) (hc.numB5 b0) (hd.rawB5 b0) (hm.pfxB5 b0) (ht.call b0)).mono ?_
 rintro _ w1 ⟨A3, n3, c3, A4, n4, c4, A5, n5, c5, rfl, s3, s4, s5, b1⟩
 clear c_hX0 c_hX1 c_hX2 c_hX3 c_hX4 c_hX5 c_hX6 c_hX7 c_hX8 c_hX9 c_hX10 c_hX11 c_hX12
 have b01 := btr b0 b1 b0.size
 have hX_1 := hX.below b1 hX.lt
 have c_hX0 := hX_1.cell 0
 have c_hX1 := hX_1.cell 1
 have c_hX2 := hX_1.cell 2
 have c_hX3 := hX_1.cell 3
 have c_hX4 := hX_1.cell 4
 have c_hX5 := hX_1.cell 5
 have c_hX6 := hX_1.cell 6
 have c_hX7 := hX_1.cell 7
 have c_hX8 := hX_1.cell 8
 have c_hX9 := hX_1.cell 9
 have c_hX10 := hX_1.cell 10
 have c_hX11 := hX_1.cell 11
 have c_hX12 := hX_1.cell 12
 have e3 := Lib.hid s3.len
 have e4 := Lib.hid s4.len
 have e5 := Lib.hid s5.len
 have l3 : n3 ≤ 50000 := by have := e3.out; have := HLG.out; omega
 have l4 : n4 ≤ 5000 := by have := e4.out; have := HLS.out; omega
 have l5 : n5 ≤ 50000 := by have := e5.out; have := HLM.out; omega
 have v1 : IntKind.i64.wrap ((n3 : Int) + n4) = (n3 : Int) + n4 := IntWalk.i64_in _ ⟨by omega, by omega⟩
 have v2 : IntKind.i64.wrap ((n3 : Int) + n4 + n5) = (n3 : Int) + n4 + n5 := IntWalk.i64_in _ ⟨by omega, by omega⟩
 have v3 : IntKind.i64.wrap ((n3 : Int) + n4 + n5 + 4) = (n3 : Int) + n4 + n5 + 4 := IntWalk.i64_in _ ⟨by omega, by omega⟩
 by_cases hlt : 4077 < n3 + n4 + n5 + 4
 ·have t1 : decide ((4077 : Int) < (n3 : Int) + n4 + n5 + 4) = true := decide_eq_true (by omega)
  have HE := Lib.hid (show updPut true (⟨gone, ⟨o, path, nx, md, pf, at_, ha, gs, ga, comms, raws⟩, news⟩ : Upd) = ([], 4) by rw [HV.out, if_pos (by rw [← e3.out, ← e4.out, ← e5.out]; exact hlt)])
  clear hlt l3 l4 l5
  go_wp2_with fail
  go_ret2
  rw [HE.out]
  exact ⟨none, 0, 0, rfl, OB.nil_, b01⟩
 ·have t1 : decide ((4077 : Int) < (n3 : Int) + n4 + n5 + 4) = false := decide_eq_false (by omega)
  have HE := Lib.hid (show updPut true (⟨gone, ⟨o, path, nx, md, pf, at_, ha, gs, ga, comms, raws⟩, news⟩ : Upd) = (updB G S M, 0) by rw [HV.out, if_neg (by rw [← e3.out, ← e4.out, ← e5.out]; exact hlt)])
  have L3 : n3 ≤ 100000 ∧ n4 ≤ 100000 ∧ n5 ≤ 100000 := ⟨by omega, by omega, by omega⟩
  clear hlt l3 l4 l5
  go_wp2_with fail
  refine (updBody A3 n3 c3 G A4 n4 c4 S A5 n5 c5 M _ s3 s4 s5 L3).mono ?_
  rintro _ w2 ⟨A6, n6, c6, rfl, o6, b2⟩
  clear c_hX0 c_hX1 c_hX2 c_hX3 c_hX4 c_hX5 c_hX6 c_hX7 c_hX8 c_hX9 c_hX10 c_hX11 c_hX12
  have b02 := btr b01 b2 b01.size
  have hX_2 := hX_1.below b2 hX_1.lt
  clear hX_1
  have c_hX0 := hX_2.cell 0
  have c_hX1 := hX_2.cell 1
  have c_hX2 := hX_2.cell 2
  have c_hX3 := hX_2.cell 3
  have c_hX4 := hX_2.cell 4
  have c_hX5 := hX_2.cell 5
  have c_hX6 := hX_2.cell 6
  have c_hX7 := hX_2.cell 7
  have c_hX8 := hX_2.cell 8
  have c_hX9 := hX_2.cell 9
  have c_hX10 := hX_2.cell 10
  have c_hX11 := hX_2.cell 11
  have c_hX12 := hX_2.cell 12
  have o6' := o6.low (base' := w.heap.size) b01.size
  go_wp2_with fail
  go_ret2
  rw [HE.out]
  exact ⟨A6, n6, c6, rfl, o6', b02⟩
/-- How many prefixes have so much room. -/
def fitsN : List Pfx → Int → Nat
 | [], _ => 0
 | p :: l, r => if r - (1 + ((p.2.toNat + 7) / 8 : Nat)) < 0 then 0 else 1 + fitsN l (r - (1 + ((p.2.toNat + 7) / 8 : Nat)))
theorem fitsN_le : ∀ (l : List Pfx) (r : Int), fitsN l r ≤ l.length
 | [], _ => Nat.le_refl _
 | p :: l, r => by
  unfold fitsN
  split
  ·exact Nat.zero_le _
  ·have := fitsN_le l (r - (1 + ((p.2.toNat + 7) / 8 : Nat)))
   rw [List.length_cons]
   omega
theorem fitsN_room : ∀ (l : List Pfx) (r : Int), l.all okQ = true → 0 < fitsN l r → ((pfxB (l.take (fitsN l r))).length : Int) ≤ r
 | [], r, _, h => by simp [fitsN] at h
 | p :: l, r, ha, h => by
  rw [List.all_cons, Bool.and_eq_true] at ha
  unfold fitsN at h ⊢
  by_cases hr : r - (1 + ((p.2.toNat + 7) / 8 : Nat)) < 0
  ·rw [if_pos hr] at h; omega
  ·rw [if_neg hr, Nat.add_comm, List.take_succ_cons]
   have h1 : (pfxB (p :: l.take (fitsN l (r - (1 + ((p.2.toNat + 7) / 8 : Nat)))))).length = (pB p).length + (pfxB (l.take (fitsN l (r - (1 + ((p.2.toNat + 7) / 8 : Nat)))))).length := by
    unfold pfxB
    rw [List.flatMap_cons, List.length_append]
   rw [h1, pB_len ha.1]
   by_cases h0 : 0 < fitsN l (r - (1 + ((p.2.toNat + 7) / 8 : Nat)))
   ·have := fitsN_room l _ ha.2 h0
    omega
   ·have h0 : fitsN l (r - (1 + ((p.2.toNat + 7) / 8 : Nat))) = 0 := by omega
    rw [h0]
    simp [pfxB]
    omega
theorem fitsN_pos {l : List Pfx} {r : Int} (hl : l.length ≠ 0) (ha : l.all okQ = true) (hr : 5 ≤ r) : 0 < fitsN l r := by
 cases l with
 | nil => exact absurd rfl hl
 | cons p l =>
  rw [List.all_cons, Bool.and_eq_true] at ha
  have h1 := pB_len ha.1
  have h2 := pB_len5 p
  unfold fitsN
  rw [if_neg (by omega)]
  omega
theorem fitsN_step {l : List Pfx} {j : Nat} {p : Pfx} {r : Int} (hp : l[j]? = some p) : fitsN (l.drop j) r = if r - (1 + ((p.2.toNat + 7) / 8 : Nat)) < 0 then 0 else 1 + fitsN (l.drop (j + 1)) (r - (1 + ((p.2.toNat + 7) / 8 : Nat))) := by
 rw [List.drop_eq_getElem_cons (List.getElem?_eq_some_iff.1 hp).1, (List.getElem?_eq_some_iff.1 hp).2]
 rfl
set_option maxHeartbeats 2000000 in
set_option maxRecDepth 100000 in
theorem updFits (A : Option Addr) (n c : Nat) (l : List Pfx) (room : Int) (w : World) (hd : DL rPfx 2 w (Lo w) A n l) (ha : l.all okQ = true) (hn : n ≤ 10000) (hr : -100000 ≤ room ∧ room ≤ 100000) :
  Calls Tryz.prog 99 #[.slice A n c, .int .i64 room] w fun en w' => en = .returned (.int .i64 (fitsN l room : Nat)) ∧ Below w.heap.size w w' := by
 have HN := Lib.hid hd.len
 have HA := Lib.hid ha
 have HR := Lib.hid hr
 obtain ⟨f, hf⟩ : ∃ f, fitsN l room = f := ⟨_, rfl⟩
 rw [hf]
 have HF := Lib.hid hf
 clear hf hr ha
 go_enter Tryz.func99, Tryz.ntmps99
 go_wp2_with fail
 go_loopw [1, 9] (fun r i wr => ∃ (j : Nat) (rm : Int), j ≤ n ∧ i = .int .i64 j ∧ r = .int .i64 rm ∧ Hid (f = j + fitsN (l.drop j) rm ∧ -100000 ≤ rm + 5 * j ∧ rm ≤ 100000) ∧ Below w.heap.size w wr) (fun _ i _ => n - (intOf i).toNat)
 case atStart => exact ⟨0, room, by omega, rfl, rfl, Lib.hid ⟨by rw [List.drop_zero, HF.out]; omega, by have := HR.out; omega, by have := HR.out; omega⟩, Below.refl _ _⟩
 case round =>
  obtain ⟨j, rm, hj, rfl, rfl, HI, hb⟩ := hrel
  by_cases hlt : j < n
  ·obtain ⟨p, hp⟩ : ∃ p, l[j]? = some p := ⟨_, List.getElem?_eq_getElem (by have := HN.out; omega)⟩
   have e2 : decide ((j : Int) < n) = true := decide_eq_true (by omega)
   obtain ⟨b, off, rfl, hbl, k0, k1, hpa, hpw⟩ := (hd.keep rPfx_ok (Kp.call hb)).pfxAt hp
   have hok : okQ p = true := List.all_eq_true.1 HA.out p (List.mem_of_getElem? hp)
   obtain ⟨k, hk, h32, _⟩ := okQ_of hok
   have HS := Lib.hid (fitsN_step (r := rm) hp)
   obtain ⟨a, m⟩ := p
   simp only at hk k0 k1 HS hpa
   subst hk
   have wj : IntKind.i64.wrap ((j : Int) + 1) = (j : Int) + 1 := IntWalk.i64_in _ ⟨by omega, by omega⟩
   have w7 : IntKind.i64.wrap ((k : Int) + 7) = (k : Int) + 7 := IntWalk.i64_in _ ⟨by omega, by omega⟩
   obtain ⟨q, hq⟩ : ∃ q, (k + 7) / 8 = q := ⟨_, rfl⟩
   have hq4 : q ≤ 4 := by omega
   have w8 : IntKind.i64.wrap (((k : Int) + 7).tdiv 8) = (q : Int) := by
    rw [Int.tdiv_eq_ediv_of_nonneg (by omega), IntKind.wrap_i64]
    omega
   have w8' : ((k : Int) + 7) / 8 = (q : Int) := by omega
   have w9 : IntKind.i64.wrap (1 + (q : Int)) = 1 + (q : Int) := IntWalk.i64_in _ ⟨by omega, by omega⟩
   have w10 : IntKind.i64.wrap (rm - (1 + (q : Int))) = rm - (1 + (q : Int)) := IntWalk.i64_in _ ⟨by have := HI.out; omega, by have := HI.out; omega⟩
   simp only [Int.toNat_natCast, hq] at HS
   have HB := Lib.hid h32
   clear hp hok hpw hq h32
   have b1 := hb.alloc hb.size (.cells #[.int .u32 (a : Int), .int .i64 (k : Int)] 146)
   have hX := Blk.new wr 146 #[.int .u32 (a : Int), .int .i64 (k : Int)]
   have x0 := hX.cell 0
   have x1 := hX.cell 1
   by_cases hneg : rm - (1 + (q : Int)) < 0
   ·have t1 : decide (rm - (1 + (q : Int)) < 0) = true := decide_eq_true hneg
    have HE := Lib.hid (show f = j by have h := HI.out.1; rw [HS.out, if_pos hneg] at h; omega)
    clear hneg
    go_wp2_with fail
    go_ret
    exact ⟨by rw [HE.out]; rfl, b1⟩
   ·have t1 : decide (rm - (1 + (q : Int)) < 0) = false := decide_eq_false hneg
    have HI2 := Lib.hid (show f = (j + 1) + fitsN (l.drop (j + 1)) (rm - (1 + (q : Int))) ∧ -100000 ≤ rm - (1 + (q : Int)) + 5 * ((j + 1 : Nat) : Int) ∧ rm - (1 + (q : Int)) ≤ 100000 by
     have h := HI.out
     rw [HS.out, if_neg hneg] at h
     refine ⟨by omega, by omega, by omega⟩)
    clear hneg
    go_wp2_with fail
    go_roundw
    case rel => exact ⟨j + 1, _, by omega, by go_num, rfl, HI2, b1⟩
    case measure => simp [intOf]; omega
  ·have e2 : decide ((j : Int) < n) = false := decide_eq_false (by omega)
   have HE := Lib.hid (show f = n by have h := HI.out.1; have h2 := HN.out; rw [List.drop_of_length_le (by omega)] at h; simp [fitsN] at h; omega)
   go_wp2_with fail
   go_ret
   exact ⟨by rw [HE.out]; rfl, hb⟩
/-- The number of the first bytes, as bits. -/
theorem numP_form (E : List UInt8) : ∀ j, j ≤ 4 → ∃ K, numP E j = K * 2 ^ (32 - 8 * j) ∧ K < 2 ^ (8 * j) := by
 intro j
 induction j with
 | zero => intro _; exact ⟨0, by simp [numP], by simp⟩
 | succ j ih =>
  intro hj
  obtain ⟨K, hK, hK2⟩ := ih (by omega)
  have hv := lb_lt E j
  refine ⟨K * 256 + lb E j, ?_, ?_⟩
  ·show numP E j + _ = _
   rw [hK, show 32 - 8 * j = (24 - 8 * j) + 8 by omega, show 32 - 8 * (j + 1) = 24 - 8 * j by omega, Nat.pow_add, Nat.add_mul, Nat.mul_assoc, Nat.mul_comm (2 ^ (24 - 8 * j))]
  ·rw [show 8 * (j + 1) = 8 * j + 8 by omega, Nat.pow_add]
   omega
theorem numP_lt (E : List UInt8) (j : Nat) (hj : j ≤ 4) : numP E j < 4294967296 := by
 obtain ⟨K, hK, hK2⟩ := numP_form E j hj
 rw [hK, show (4294967296 : Nat) = 2 ^ (8 * j) * 2 ^ (32 - 8 * j) by rw [← Nat.pow_add, show 8 * j + (32 - 8 * j) = 32 by omega]]
 exact Nat.mul_lt_mul_of_pos_right hK2 (Nat.two_pow_pos _)
theorem numP_or (E : List UInt8) (j : Nat) (hj : j < 4) : bits .or .u32 (numP E j : Int) ((lb E j : Int) * 2 ^ (24 - 8 * j) % 4294967296) = (numP E (j + 1) : Int) := by
 have hv := lb_lt E j
 obtain ⟨K, hK, hK2⟩ := numP_form E j (by omega)
 have h1 := numP_lt E j (by omega)
 have h3 := numP_lt E (j + 1) (by omega)
 have e2 : numP E (j + 1) = numP E j + lb E j * 2 ^ (24 - 8 * j) := rfl
 have e : ((lb E j : Int) * 2 ^ (24 - 8 * j) % 4294967296) = ((lb E j * 2 ^ (24 - 8 * j) : Nat) : Int) := by
  have : ((lb E j * 2 ^ (24 - 8 * j) % 4294967296 : Nat) : Int) = (lb E j : Int) * 2 ^ (24 - 8 * j) % 4294967296 := by
   simp only [Int.natCast_emod, Int.natCast_mul, Int.natCast_pow]; rfl
  rw [← this, Nat.mod_eq_of_lt (by omega)]
 rw [e, u32_orN _ _ h1 (by omega), e2, hK]
 have h4 : lb E j * 2 ^ (24 - 8 * j) < 2 ^ (32 - 8 * j) := by
  rw [show 32 - 8 * j = 8 + (24 - 8 * j) by omega, Nat.pow_add]
  exact Nat.mul_lt_mul_of_pos_right (by omega) (Nat.two_pow_pos _)
 rw [Nat.mul_comm K, ← Nat.two_pow_add_eq_or_of_lt h4]
/-- A reader stays where a prefix's cell is written. -/
theorem RB.pfx {Bd : Nat} {w : World} {g p : Nat} {l : List UInt8} {s : Bool} {x y : Int} (h : RB Bd w g l s) (hp : Blk w p 146 #[.int .u32 x, .int .i64 y]) (hB : Bd ≤ p) (i : Nat) (u : Value) : RB Bd (w.setCell ⟨p, i, none⟩ u) g l s := by
 obtain ⟨cs, hb⟩ := h.blk
 exact h.setCell (p := ⟨p, i, none⟩) hB (fun e => Blk.ne_ hb hp (by decide) e.symm) u
/-- What a prefix that is read comes to. -/
def RetPR (Bd g : Nat) (l : List UInt8) (w : World) (e : Ending) (w' : World) : Prop := w.grownBy w' (some g) ∧ match pfx1 l with
 | none => ∃ (x : Int) (l' : List UInt8) (s' : Bool), e = .returned (.tuple #[.agg #[.int .u32 0, .int .i64 0], .int .i64 x]) ∧ x ≠ 0 ∧ RB Bd w' g l' s'
 | some (p, t) => e = .returned (.tuple #[.agg #[.int .u32 (p.1 : Int), .int .i64 p.2], .int .i64 0]) ∧ RB Bd w' g t false
theorem tkNo5 {l : List UInt8} {k : Nat} (h : l.length < k) : tkOut l false k = [] ∧ tkLeft l false k = l ∧ tkShort l false k = true := by
 have e : false = true ∨ (k : Int) < 0 ∨ (l.length : Int) < (k : Int) := .inr (.inr (by omega))
 exact ⟨if_pos e, if_pos e, decide_eq_true e⟩
set_option maxHeartbeats 2000000 in
set_option maxRecDepth 100000 in
theorem prefixReadG {Bd : Nat} (g : Nat) (l : List UInt8) (w : World) (h : RB Bd w g l false) (hl : l.length ≤ 100000) :
  Calls Tryz.prog 143 #[.pointer (some ⟨g, 0, none⟩)] w (RetPR Bd g l w) := by
 have hgl := h.lt
 have hBd : Bd ≤ w.heap.size := by obtain ⟨_, _, _, _, ⟨_, h⟩, _⟩ := h; exact h
 have hB := Blk.new w 146 #[.int .u32 0, .int .i64 0]
 have b0 := (Below.refl w.heap.size w).alloc (Nat.le_refl _) (.cells #[.int .u32 0, .int .i64 0] 146)
 have h0 := h.below b0 hBd hgl
 have HBD := Lib.hid hBd
 clear hBd
 rcases l with _ | ⟨c, t⟩
 case nil =>
  have T1 := tkNo5 (l := []) (k := 1) (by simp)
  have HP := Lib.hid (show pfx1 [] = none from rfl)
  go_enter Tryz.func143, Tryz.ntmps143
  go_wp2_with fail
  refine (rbByte g [] false _ h0 (by simp)).mono ?_
  rw [T1.1, T1.2.1, T1.2.2]
  rintro _ w1 ⟨rfl, r1, g1⟩
  have hB1 := hB.grown g1 (by intro e; injection e; omega)
  have G1 := grown_tr (only_of_below b0 (some g)) g1
  go_wp2_with fail
  refine (rbErr g _ true _ r1).mono ?_
  rintro _ _ ⟨rfl, rfl⟩
  have f0 := hB1.frozen 0
  have f1 := hB1.frozen 1
  have c0 := hB1.cell 0
  have c1 := hB1.cell 1
  go_wp2_with fail
  have hB2 := (hB1.set_ 0 (.int .u32 0)).set_ 1 (.int .i64 0)
  refine bodyPost_ret (pfx_ret2 rfl _ _ w.heap.size (.int .u32 0) (.int .i64 0) rfl (by simpa using hB2)) rfl ?_
  refine ⟨only_setCell (only_setCell G1 (.inr (Nat.le_refl _)) _) (.inr (Nat.le_refl _)) _, ?_⟩
  rw [HP.out]
  exact ⟨3, [], true, rfl, by decide, (r1.pfx hB1 HBD.out 0 _).pfx (by simpa using hB1.set_ 0 (.int .u32 0)) HBD.out 1 _⟩
 have hN1 : numL [c] = c.toNat := by simp [numL]
 have T1 := tk_yes (l := c :: t) (k := 1) (by simp)
 rw [List.take_succ_cons, List.take_zero, List.drop_succ_cons, List.drop_zero] at T1
 have hc255 : c.toNat < 256 := UInt8.toNat_lt c
 obtain ⟨k, hk⟩ : ∃ k, c.toNat = k := ⟨_, rfl⟩
 have hlt : t.length ≤ 100000 := by rw [List.length_cons] at hl; omega
 have HPX := Lib.hid (show pfx1 (c :: t) = if 32 < k then none else if t.length < (k + 7) / 8 then none else some ((normN (numP (t.take ((k + 7) / 8)) ((k + 7) / 8)) (k : Int), (k : Int)), t.drop ((k + 7) / 8)) by rw [pfx1_cons, hk])
 rw [hk] at hN1 hc255
 have HLT := Lib.hid hlt
 obtain ⟨L, hL⟩ : ∃ L, c :: t = L := ⟨_, rfl⟩
 rw [hL] at h h0 T1 hl HPX ⊢
 clear hL hk hlt
 have HN1 := Lib.hid hN1
 have HT1 := Lib.hid T1
 have HC := Lib.hid hc255
 clear hN1 T1 hc255
 by_cases h32 : 32 < k
 case pos =>
  have t1 : decide ((32 : Int) < (k : Int)) = true := decide_eq_true (by omega)
  have t2 : decide (32 < k) = true := decide_eq_true h32
  have HP := Lib.hid (show pfx1 L = none by rw [HPX.out, if_pos h32])
  clear h32
  go_enter Tryz.func143, Tryz.ntmps143
  go_wp2_with fail
  refine (rbByte g L false _ h0 (by omega)).mono ?_
  rw [HT1.out.1, HT1.out.2.1, HT1.out.2.2, HN1.out]
  rintro _ w1 ⟨rfl, r1, g1⟩
  have hB1 := hB.grown g1 (by intro e; injection e; omega)
  have G1 := grown_tr (only_of_below b0 (some g)) g1
  go_wp2_with fail
  refine (rbErr g _ false _ r1).mono ?_
  rintro _ _ ⟨rfl, rfl⟩
  have f0 := hB1.frozen 0
  have f1 := hB1.frozen 1
  have c0 := hB1.cell 0
  have c1 := hB1.cell 1
  go_wp2_with fail
  have hB2 := (hB1.set_ 0 (.int .u32 0)).set_ 1 (.int .i64 0)
  refine bodyPost_ret (pfx_ret2 rfl _ _ w.heap.size (.int .u32 0) (.int .i64 0) rfl (by simpa using hB2)) rfl ?_
  refine ⟨only_setCell (only_setCell G1 (.inr (Nat.le_refl _)) _) (.inr (Nat.le_refl _)) _, ?_⟩
  rw [HP.out]
  exact ⟨5, t, false, rfl, by decide, (r1.pfx hB1 HBD.out 0 _).pfx (by simpa using hB1.set_ 0 (.int .u32 0)) HBD.out 1 _⟩
 have t1 : decide ((32 : Int) < (k : Int)) = false := decide_eq_false (by omega)
 have t2 : decide (32 < k) = false := decide_eq_false h32
 have hk32 : k ≤ 32 := by omega
 obtain ⟨q, hq⟩ : ∃ q, (k + 7) / 8 = q := ⟨_, rfl⟩
 have hq4 : q ≤ 4 := by omega
 have hw8 : IntKind.i64.wrap (((k : Int) + 7).tdiv 8) = (q : Int) := by
  rw [Int.tdiv_eq_ediv_of_nonneg (by omega), IntKind.wrap_i64]
  omega
 have hw7 : ((k : Int) + 7) / 8 = (q : Int) := by omega
 have hw7k : IntKind.i64.wrap ((k : Int) + 7) = (k : Int) + 7 := IntWalk.i64_in _ ⟨by omega, by omega⟩
 rw [hq] at HPX
 have HQ := Lib.hid hq
 clear hq h32
 by_cases hsh : t.length < q
 case pos =>
  have HP := Lib.hid (show pfx1 L = none by rw [HPX.out, if_neg (by omega), if_pos hsh])
  have T2 := Lib.hid (tkNo5 hsh)
  clear hsh
  go_enter Tryz.func143, Tryz.ntmps143
  go_wp2_with fail
  refine (rbByte g L false _ h0 (by omega)).mono ?_
  rw [HT1.out.1, HT1.out.2.1, HT1.out.2.2, HN1.out]
  rintro _ w1 ⟨rfl, r1, g1⟩
  have hB1 := hB.grown g1 (by intro e; injection e; omega)
  have G1 := grown_tr (only_of_below b0 (some g)) g1
  go_wp2_with fail
  refine (rbErr g _ false _ r1).mono ?_
  rintro _ _ ⟨rfl, rfl⟩
  go_wp2_with fail
  refine (rbTake g t false (q : Nat) _ r1 (by have := HLT.out; omega)).mono ?_
  rintro _ w3 ⟨A3, n3, c3, rfl, o3, r3, g3⟩
  rw [T2.out.1] at o3
  rw [T2.out.2.1, T2.out.2.2] at r3
  have hn3 : n3 = 0 := o3.1
  subst hn3
  have hB3 := hB1.grown g3 (by intro e; injection e; omega)
  have G3 := grown_tr G1 g3
  go_wp2_with fail
  go_loop [6, 27] (fun x i => x = .int .u32 0 ∧ i = .int .i64 0) (fun _ i => 0)
  case atStart => exact ⟨rfl, rfl⟩
  case round =>
   obtain ⟨rfl, rfl⟩ := hrel
   go_wp2_with fail
   refine (rbErr g _ true _ r3).mono ?_
   rintro _ _ ⟨rfl, rfl⟩
   have f0 := hB3.frozen 0
   have f1 := hB3.frozen 1
   have c0 := hB3.cell 0
   have c1 := hB3.cell 1
   go_wp2_with fail
   have hB4 := (hB3.set_ 0 (.int .u32 0)).set_ 1 (.int .i64 0)
   refine bodyPost_ret (pfx_ret2 rfl _ _ w.heap.size (.int .u32 0) (.int .i64 0) rfl (by simpa using hB4)) rfl ?_
   refine ⟨only_setCell (only_setCell G3 (.inr (Nat.le_refl _)) _) (.inr (Nat.le_refl _)) _, ?_⟩
   rw [HP.out]
   exact ⟨3, t, true, rfl, by decide, (r3.pfx hB3 HBD.out 0 _).pfx (by simpa using hB3.set_ 0 (.int .u32 0)) HBD.out 1 _⟩
 have T2 := tk_yes (l := t) (k := q) (by omega)
 have HP := Lib.hid (show pfx1 L = some ((normN (numP (t.take q) q) (k : Int), (k : Int)), t.drop q) by rw [HPX.out, if_neg (by omega), if_neg hsh])
 have hlE : (t.take q).length = q := by rw [List.length_take]; omega
 obtain ⟨E, hE⟩ : ∃ E, t.take q = E := ⟨_, rfl⟩
 obtain ⟨M, hM⟩ : ∃ M, t.drop q = M := ⟨_, rfl⟩
 rw [hE, hM] at T2 HP
 rw [hE] at hlE
 have HT2 := Lib.hid T2
 have HLE := Lib.hid hlE
 clear hE hM hlE hsh T2
 go_enter Tryz.func143, Tryz.ntmps143
 go_wp2_with fail
 refine (rbByte g L false _ h0 (by omega)).mono ?_
 rw [HT1.out.1, HT1.out.2.1, HT1.out.2.2, HN1.out]
 rintro _ w1 ⟨rfl, r1, g1⟩
 have hB1 := hB.grown g1 (by intro e; injection e; omega)
 have G1 := grown_tr (only_of_below b0 (some g)) g1
 go_wp2_with fail
 refine (rbErr g _ false _ r1).mono ?_
 rintro _ _ ⟨rfl, rfl⟩
 go_wp2_with fail
 refine (rbTake g t false (q : Nat) _ r1 (by have := HLT.out; omega)).mono ?_
 rintro _ w3 ⟨A3, n3, c3, rfl, o3, r3, g3⟩
 rw [HT2.out.1] at o3
 rw [HT2.out.2.1, HT2.out.2.2] at r3
 have hB3 := hB1.grown g3 (by intro e; injection e; omega)
 have G3 := grown_tr G1 g3
 have hn3 : n3 = q := o3.1.trans HLE.out
 subst hn3
 go_wp2_with fail
 go_loop [6, 27] (fun x i => ∃ j : Nat, j ≤ n3 ∧ x = .int .u32 (numP E j) ∧ i = .int .i64 j) (fun _ i => n3 - (intOf i).toNat)
 case atStart => exact ⟨0, by omega, rfl, rfl⟩
 case round =>
  obtain ⟨j, hj, rfl, rfl⟩ := hrel
  by_cases hlt : j < n3
  ·obtain ⟨b, off, rfl, hbw, hcw⟩ := o3.bs.form hlt
   have hvl := lb_lt E j
   have HA := Lib.hid (numP_or E j (by omega))
   obtain ⟨v, hvv⟩ : ∃ v, lb E j = v := ⟨_, rfl⟩
   rw [hvv] at hcw hvl HA
   obtain ⟨x, hx⟩ : ∃ x, numP E j = x := ⟨_, rfl⟩
   have hd : decide ((j : Int) < (n3 : Int)) = true := decide_eq_true (by omega)
   have hs : ((24 - 8 * j : Nat) : Int) = 24 - 8 * (j : Int) := by omega
   rw [hx] at HA ⊢
   clear hvv hx
   go_wp2_with fail
   go_round
   case rel => exact ⟨j + 1, by omega, by rw [HA.out], by go_num⟩
   case measure => simp [intOf]; omega
  ·have hj' : j = n3 := by omega
   subst hj'
   have hd : decide ((j : Int) < (j : Int)) = false := decide_eq_false (by omega)
   have e2 := numP_lt E j hq4
   obtain ⟨x, hx⟩ : ∃ x, numP E j = x := ⟨_, rfl⟩
   rw [hx] at e2 HP ⊢
   have HC := Lib.hid (cl_nat hk32)
   have hnl := normN_le x (k : Int)
   clear hx
   go_wp2_with fail
   refine (rbErr g _ false _ r3).mono ?_
   rintro _ _ ⟨rfl, rfl⟩
   go_wp2_with fail
   refine (prefixNorm x (by omega) k _).mono ?_
   rw [HC.out]
   rintro _ w5 ⟨rfl, b5⟩
   obtain ⟨y, hy⟩ : ∃ y, normN x (k : Int) = y := ⟨_, rfl⟩
   rw [hy] at HP ⊢
   clear hy hnl
   have hB5 := hB3.below b5 hB3.lt
   have r5 := r3.below b5 (by have := HBD.out; have := G3.size; omega) (by have := G3.size; omega)
   have G5 := grown_tr G3 (only_of_below b5 (some g))
   have f0 := hB5.frozen 0
   have f1 := hB5.frozen 1
   have c0 := hB5.cell 0
   have c1 := hB5.cell 1
   go_wp2_with fail
   have hB6 := (hB5.set_ 0 (.int .u32 y)).set_ 1 (.int .i64 k)
   refine bodyPost_ret (pfx_ret2 rfl _ _ w.heap.size (.int .u32 y) (.int .i64 k) rfl (by simpa using hB6)) rfl ?_
   refine ⟨only_setCell (only_setCell G5 (.inr (Nat.le_refl _)) _) (.inr (Nat.le_refl _)) _, ?_⟩
   rw [HP.out]
   exact ⟨rfl, (r5.pfx hB5 HBD.out 0 _).pfx (by simpa using hB5.set_ 0 (.int .u32 y)) HBD.out 1 _⟩
theorem own_rw2 {w : World} {base size n c : Nat} {e : TypeId} {A : Option Addr} {xs : List Value} {S : Nat → Prop} (h : w.ownsRow base e size (.slice A n c) n xs) (hS : ∀ b, base ≤ b → b < w.heap.size → S b) : Rw w S size A n xs := by
 refine ⟨h.1, fun hn => ?_⟩
 obtain ⟨g, cap, hv, hg, hlt⟩ := h.form hn
 have hA : A = some ⟨g, 0, none⟩ := by injection hv
 subst hA
 exact ⟨g, 0, rfl, hS g hg hlt, fun j u hu => by have := h.cells (g := g) rfl j u hu; rwa [addr_add] at this⟩
/-- Prefixes' cells. -/
def pc1 (p : Pfx) : List Value := [.int .u32 (p.1 : Int), .int .i64 p.2]
def pc (l : List Pfx) : List Value := (l.map pc1).flatten
def wfPx (p : Pfx) : Prop := p.1 < 4294967296 ∧ (Lit.int .i64 p.2).wf = true
theorem pc_app (l m : List Pfx) : pc (l ++ m) = pc l ++ pc m := by unfold pc; rw [List.map_append, List.flatten_append]
theorem pc_one (l : List Pfx) : ∀ u ∈ pc l, u.oneCell' = true := by
 intro u hu
 unfold pc at hu
 obtain ⟨cs, hcs, hu⟩ := List.mem_flatten.1 hu
 obtain ⟨p, _, rfl⟩ := List.mem_map.1 hcs
 unfold pc1 at hu
 simp at hu
 rcases hu with rfl | rfl <;> rfl
/-- Prefixes as a slice of the call's own. -/
def OX (w : World) (base : Nat) (A : Option Addr) (n c : Nat) (l : List Pfx) : Prop := n = l.length ∧ w.ownsRow base 146 2 (.slice A n c) n (pc l) ∧ ∀ p ∈ l, wfPx p
theorem OX.nil_ {w : World} {base : Nat} : OX w base none 0 0 [] := ⟨rfl, World.ownsRow_nil _ _ _ _, fun p h => by cases h⟩
theorem OX.dl {w : World} {base n c : Nat} {A : Option Addr} {l : List Pfx} {S : Nat → Prop} (h : OX w base A n c l) (hS : ∀ b, base ≤ b → b < w.heap.size → S b) : DL rPfx 2 w S A n l := by
 obtain ⟨h1, h2, h3⟩ := h
 refine ⟨l.map pc1, by simp, h1, own_rw2 h2 hS, fun i cs a hi ha => ?_, fun cs hcs => ?_⟩
 ·rw [List.getElem?_map, ha] at hi
  injection hi with hi
  subst hi
  exact ⟨rfl, h3 a (List.mem_of_getElem? ha)⟩
 ·obtain ⟨p, _, rfl⟩ := List.mem_map.1 hcs
  rfl
theorem OX.low {w : World} {base base' n c : Nat} {A : Option Addr} {l : List Pfx} (h : OX w base A n c l) (hb : base' ≤ base) : OX w base' A n c l := by
 refine ⟨h.1, ⟨h.2.1.1, ?_⟩, h.2.2⟩
 rcases h.2.1.2 with h3 | ⟨g, cap, cur, hv, hg, hh, r⟩
 ·exact .inl h3
 ·exact .inr ⟨g, cap, cur, hv, Nat.le_trans hb hg, hh, r⟩
theorem OX.keep {w w' : World} {base n c : Nat} {A : Option Addr} {l : List Pfx} (h : OX w base A n c l) (hk : ∀ k, Value.ownBlock (.slice A n c) = some k → w'.heap[k]? = w.heap[k]?) : OX w' base A n c l := ⟨h.1, own_keep h.2.1 hk, h.2.2⟩
theorem OX.call {w w' : World} {base n c : Nat} {A : Option Addr} {l : List Pfx} (h : OX w base A n c l) (hb : Below w.heap.size w w') : OX w' base A n c l := h.keep fun k hk => hb.block k (h.2.1.lt k hk).2
theorem pfx_info3 : (Tryz.prog.info? 146).map (fun i => (i.zero, i.size, i.bytes)) = some (some (.agg #[.int .u32 0, .int .i64 0]), 2, 16) := by kernel_rfl
theorem Reads.onePx (w : World) (p : Pfx) {g : Nat} (hg : Blk w g 146 #[.int .u32 (p.1 : Int), .int .i64 p.2]) {B : Nat} (hB : g < B) : Reads w B 2 (some ⟨g, 0, none⟩) 1 (pc [p]) := by
 refine ⟨rfl, fun _ => ⟨_, rfl, hB, fun j u hu => ?_⟩⟩
 rw [addr_add, Nat.zero_add, hg.cell]
 simpa [pc, pc1] using hu
/-- All prefixes of bytes, in cells. -/
def RetLs (w : World) (r : Option (List Pfx)) (e : Ending) (w' : World) : Prop := Below w.heap.size w w' ∧ match r with
 | none => ∃ x : Int, e = .returned (.tuple #[.slice none 0 0, .int .i64 x]) ∧ x ≠ 0
 | some l => ∃ (A : Option Addr) (n c : Nat), e = .returned (.tuple #[.slice A n c, .int .i64 0]) ∧ OX w' w.heap.size A n c l
theorem pfx1_wf {l t : List UInt8} {p : Pfx} (h : pfx1 l = some (p, t)) : wfPx p := by
 cases l with
 | nil => cases h
 | cons c l =>
  rw [pfx1_cons] at h
  by_cases h1 : 32 < c.toNat
  ·rw [if_pos h1] at h; cases h
  rw [if_neg h1] at h
  by_cases h2 : l.length < (c.toNat + 7) / 8
  ·rw [if_pos h2] at h; cases h
  rw [if_neg h2] at h
  injection h with h
  injection h with h _
  subst h
  refine ⟨Nat.lt_of_le_of_lt (normN_le _ _) (numP_lt _ _ (by omega)), ?_⟩
  simp [Lit.wf, IntKind.min, IntKind.max, IntKind.signed, IntKind.bits]
  omega
set_option maxHeartbeats 4000000 in
set_option maxRecDepth 100000 in
theorem prefixList (A : Option Addr) (n c : Nat) (b : List UInt8) (w : World) (h : BS w w.heap.size A n b) (hl : n ≤ 100000) :
  Calls Tryz.prog 91 #[.slice A n c] w (RetLs w (pfxs b)) := by
 have HN := Lib.hid h.len
 obtain ⟨res, hres⟩ : ∃ r, pfxs b = r := ⟨_, rfl⟩
 rw [hres]
 have HR := Lib.hid hres
 clear hres
 go_enter Tryz.func91, Tryz.ntmps91
 go_wp2_with fail
 refine (rbNew A n c b w h (by omega)).mono ?_
 rintro _ w1 ⟨g, rfl, hg, r1, b1⟩
 have hgl := r1.lt
 obtain ⟨B1, hB1⟩ : ∃ x, w1.heap.size = x := ⟨_, rfl⟩
 rw [hB1] at r1 hgl
 have HB1 := Lib.hid hB1
 clear hB1
 go_wp2_with fail
 go_loopg [4] b.length (fun fu x wr => ∃ (A1 : Option Addr) (m1 c1 : Nat) (done : List Pfx) (t : List UInt8), x = .slice A1 m1 c1 ∧ OX wr B1 A1 m1 c1 done ∧ RB B1 wr g t false ∧ Below w.heap.size w wr ∧ Hid (t.length ≤ fu ∧ done.length + t.length ≤ b.length ∧ pfxsO done t = res ∧ b.length ≤ 100000 ∧ B1 ≤ wr.heap.size))
 case atStart => exact ⟨none, 0, 0, [], b, rfl, OX.nil_, r1, b1, Lib.hid ⟨Nat.le_refl _, by simp, by rw [pfxsO_zero]; exact HR.out, by have := HN.out; omega, by rw [HB1.out]; exact Nat.le_refl _⟩⟩
 case round =>
  obtain ⟨A1, m1, c1, done, t, rfl, o1, hr, hb, HI⟩ := hrel
  have hbz := HI.out.2.2.2.2
  have hm1 : m1 ≤ 100000 := by have := HI.out; have := o1.1; omega
  have htl : t.length ≤ 100000 := by have := HI.out; omega
  by_cases h0 : t.length = 0
  ·have t1 : decide ((0 : Int) < (t.length : Int)) = false := decide_eq_false (by omega)
   have t2 : decide (0 < t.length) = false := decide_eq_false (by omega)
   have HE := Lib.hid (show res = some done by have := HI.out.2.2.1; rw [List.eq_nil_of_length_eq_zero h0, pfxsO_nil] at this; exact this.symm)
   obtain ⟨tl, htl2⟩ : ∃ x, t.length = x := ⟨_, rfl⟩
   have HL := rbLeft g t false wr hr
   rw [htl2] at t1 t2
   simp only [Bool.false_eq_true, if_false, htl2] at HL
   clear h0 htl htl2
   go_wp2_with fail
   refine HL.mono ?_
   rintro _ _ ⟨rfl, rfl⟩
   go_wp2_with fail
   go_ret2
   refine ⟨hb, ?_⟩
   rw [HE.out]
   exact ⟨A1, m1, c1, rfl, o1.low (by have := b1.size; have := HB1.out; omega)⟩
  ·have t1 : decide ((0 : Int) < (t.length : Int)) = true := decide_eq_true (by omega)
   have t2 : decide (0 < t.length) = true := decide_eq_true (by omega)
   have hne : t ≠ [] := fun e => h0 (by rw [e]; rfl)
   have HL := rbLeft g t false wr hr
   have HRD := Lib.hid (prefixReadG g t wr hr htl)
   obtain ⟨tl, htl2⟩ : ∃ x, t.length = x := ⟨_, rfl⟩
   rw [htl2] at t1 t2
   simp only [Bool.false_eq_true, if_false, htl2] at HL
   have HNE := Lib.hid hne
   have HTL := Lib.hid htl2
   clear h0 htl htl2 hne
   go_wp2_with fail
   refine HL.mono ?_
   rintro _ _ ⟨rfl, rfl⟩
   go_wp2_with fail
   refine HRD.out.mono ?_
   rintro e2 w2 ⟨g2, hm⟩
   have b2 := at_below hb g2 hb.size (by have := b1.size; have := HB1.out; omega)
   cases hp : pfx1 t with
   | none =>
    rw [hp] at hm
    obtain ⟨x, l', s', rfl, hx, r2⟩ := hm
    have tx : (x != 0) = true := by simpa using hx
    have HE := Lib.hid (show res = none by rw [← HI.out.2.2.1]; exact pfxsO_no HNE.out hp)
    have HX := Lib.hid hx
    clear hp hx
    go_wp2_with fail
    go_ret2
    refine ⟨b2.alloc b2.size _, ?_⟩
    rw [HE.out]
    exact ⟨x, rfl, HX.out⟩
   | some pt =>
    obtain ⟨p, t2⟩ := pt
    rw [hp] at hm
    obtain ⟨rfl, r2⟩ := hm
    have HW := Lib.hid (pfx1_wf hp)
    have HP := Lib.hid (show pfxsO (done ++ [p]) t2 = res by rw [← HI.out.2.2.1]; exact (pfxsO_yes hp).symm)
    have HT := Lib.hid (pfx1_len hp)
    clear hp
    have o2 : OX w2 B1 A1 m1 c1 done := o1.keep fun k hk => g2.block k (o1.2.1.lt k hk).2 (fun e => by injection e with e; have := (o1.2.1.lt k hk).1; omega)
    have hB2 : B1 ≤ w2.heap.size := Nat.le_trans hbz g2.size
    have hX1 := Blk.new w2 146 #[.int .u32 (p.1 : Int), .int .i64 p.2]
    have c0 := hX1.cell 0
    have c1' := hX1.cell 1
    obtain ⟨W, hW, hX, hF, b3⟩ := boxes2 w2 #[.int .u32 (p.1 : Int), .int .i64 p.2] #[.int .u32 (p.1 : Int), .int .i64 p.2] 146 146
    have o3 := (o2.call b3).2.1
    have r3 := r2.below b3 hB2 (Nat.lt_of_lt_of_le hgl hB2)
    have b03 := btr b2 b3 b2.size
    have hrd := Reads.onePx W p hF (B := w2.heap.size + 2) (by omega)
    have hBW : B1 ≤ W.heap.size := Nat.le_trans hB2 b3.size
    subst hW
    go_wp2_with (at_builtin; refine wpl_appR rfl (.tmp 21) (.tmp 23) _ rfl 146 (.agg #[.int .u32 0, .int .i64 0]) 2 16 Tryz.underlying70 pfx_info3 rfl (by omega) B1 A1 m1 c1 (pc done) (by rfl) o3 (w2.heap.size + 2) (some ⟨w2.heap.size + 1, 0, none⟩) 1 1 (pc [p]) (by rfl) hrd (pc_one _) (by unfold maxLen; omega) (by omega) hBW ?_; intro A5 c5 w5 o5 b5 g5 hat5)
    have hlt5 : ∀ k, Value.ownBlock (.slice A1 m1 c1) = some k → B1 ≤ k ∧ k ≠ g := fun k hk => by have := (o1.2.1.lt k hk).1; exact ⟨this, by omega⟩
    have r5 := r3.grown g5 hlt5
    have b05 := b03.grown g5 b03.size (fun k hk => by have := (hlt5 k hk).1; have := b1.size; have := HB1.out; omega)
    have o5' : OX w5 B1 A5 (m1 + 1) c5 (done ++ [p]) := ⟨by rw [List.length_append, ← o1.1]; rfl, by rw [pc_app]; exact o5, fun x hx => by
     rcases List.mem_append.1 hx with hx | hx
     ·exact o1.2.2 x hx
     ·rw [List.mem_singleton.1 hx]; exact HW.out⟩
    have hz5 : B1 ≤ w5.heap.size := Nat.le_trans hBW g5.size
    clear o5 o3 o2 r3 hX hF hX1 c0 c1' b3 b5
    go_roundg t2.length
    case measure => have := HI.out.1; have := HT.out; omega
    case rel => exact ⟨A5, m1 + 1, c5, done ++ [p], t2, rfl, o5', r5, b05, Lib.hid ⟨Nat.le_refl _, by rw [List.length_append]; have := HI.out.2.1; have := HT.out; simp; omega, HP.out, HI.out.2.2.2.1, hz5⟩⟩
theorem i64info : (Tryz.prog.info? 3).map (fun i => (i.zero, i.size, i.bytes)) = some (some (.int .i64 0), 1, 8) := by kernel_rfl
def iv (l : List Int) : List Value := l.map (Value.int .i64)
theorem iv_length (l : List Int) : (iv l).length = l.length := by simp [iv]
theorem iv_append (l l' : List Int) : iv (l ++ l') = iv l ++ iv l' := by simp [iv]
theorem iv_one (l : List Int) : ∀ u ∈ iv l, u.oneCell' = true := by
 intro u hu
 obtain ⟨x, _, rfl⟩ := List.mem_map.1 hu
 rfl
/-- Numbers of the call's own. -/
def OI (w : World) (base : Nat) (A : Option Addr) (n c : Nat) (l : List Int) : Prop := n = l.length ∧ w.ownsRow base 3 1 (.slice A n c) n (iv l)
section
variable {w w' : World} {base n c : Nat} {A : Option Addr} {l : List Int}
theorem OI.nil_ : OI w base none 0 0 [] := ⟨rfl, World.ownsRow_nil _ _ _ _⟩
theorem OI.alloc (h : OI w base A n c l) (o : Obj) : OI (w.alloc o) base A n c l := ⟨h.1, h.2.alloc o⟩
theorem OI.drew (h : OI w base A n c l) : OI w.drew base A n c l := ⟨h.1, h.2.drew⟩
theorem OI.reads (h : OI w base A n c l) : Reads w w.heap.size 1 A n (iv l) := Reads.of_own h.2
theorem OI.below (h : OI w base A n c l) (hb : Below w.heap.size w w') : OI w' base A n c l := by
 refine ⟨h.1, h.2.1, ?_⟩
 rcases h.2.2 with h2 | ⟨g, cap, cur, hv, hg, hh, r⟩
 ·exact .inl h2
 ·have hlt : g < w.heap.size := by
   rcases Nat.lt_or_ge g w.heap.size with hlt | hge
   ·exact hlt
   ·rw [Array.getElem?_eq_none hge] at hh; cases hh
  exact .inr ⟨g, cap, cur, hv, hg, (hb.block g hlt).trans hh, r⟩
end
theorem Reads.oneI (w : World) (T : Nat) (e : Int) : Reads (w.alloc (.cells #[.int .i64 e] T)) (w.heap.size + 1) 1 (some ⟨w.heap.size, 0, none⟩) 1 (iv [e]) := by
 refine ⟨rfl, fun _ => ⟨_, rfl, by simp, fun j u hu => ?_⟩⟩
 match j, hu with
 | 0, hu =>
  simp only [iv, List.map_cons, List.map_nil, List.getElem?_cons_zero, Option.some.injEq] at hu
  subst hu
  exact (Blk.new w T #[.int .i64 e]).cell 0
/-- Numbers that read, number j of them. -/
theorem Reads.formI {w : World} {B n : Nat} {A : Option Addr} {l : List Int} (h : Reads w B 1 A n (iv l)) {j : Nat} (hj : j < n) : ∃ b off, A = some ⟨b, off, none⟩ ∧ b < B ∧ w.cell? ⟨b, off + j, none⟩ = some (.int .i64 (l[j]?.getD 0)) := by
 have hn : n = l.length := by have := h.1; rw [iv_length] at this; omega
 obtain ⟨ad, u, rfl, hb, hu, hc⟩ := h.at_ hj
 obtain ⟨ad', u0, e, _, hu0, hc0⟩ := h.at_ (k := 0) (by omega)
 injection e with e
 subst e
 have hs : ad.spot = none := by
  have := World.cell?_spot hc0
  simpa [Addr.add] using this
 obtain ⟨b, off, spot⟩ := ad
 simp only at hs
 subst hs
 refine ⟨b, off, rfl, hb, ?_⟩
 have hj' : j < l.length := by omega
 have e2 : u = .int .i64 (l[j]?.getD 0) := by
  rw [iv, List.getElem?_map, List.getElem?_eq_getElem hj'] at hu
  rw [List.getElem?_eq_getElem hj']
  simpa using hu.symm
 rw [← e2, ← hc]
 congr 1
 unfold Addr.add
 split <;> simp_all
theorem fltA_info : (Tryz.prog.info? 88).map (·.size) = some 3 := by kernel_rfl
theorem fltA_ret {fn : Func} {p : Tmp} (h : fn.results = #[.cell p 88]) (tmps : Array Value) (w : World) (g : Nat) (x y z : Value)
  (hp : tmps.getD p undef = .pointer (some ⟨g, 0, none⟩)) (hB : Blk w g 88 #[x, y, z]) :
  (results fn tmps).run Tryz.prog w = .ok (.agg #[x, y, z]) w :=
 results_cell_row h tmps w g 88 #[x, y, z] (0, 0) _ hp hB Tryz.underlying88 rfl fltA_info
set_option maxHeartbeats 1000000 in
set_option maxRecDepth 100000 in
theorem attFault (s : Int) (A : Option Addr) (n c : Nat) (w : World) :
  Calls Tryz.prog 148 #[.int .i64 s, .slice A n c] w fun en w' => en = .returned (.agg #[.int .i64 3, .int .i64 s, .slice A n c]) ∧ Below w.heap.size w w' := by
 have hB := Blk.new w 88 #[.int .i64 0, .int .i64 0, .slice none 0 0]
 have c0 := hB.cell 0
 have c1 := hB.cell 1
 have c2 := hB.cell 2
 have f0 := hB.frozen 0
 have f1 := hB.frozen 1
 have f2 := hB.frozen 2
 go_enter Tryz.func148, Tryz.ntmps148
 go_wp2_with fail
 exact bodyPost_ret (fltA_ret rfl _ _ w.heap.size _ _ _ rfl (Blk.new w 88 #[.int .i64 3, .int .i64 s, .slice A n c])) rfl ⟨rfl, (Below.refl _ _).alloc (Nat.le_refl _) _⟩
theorem nilB_eq (c : Nat) (W : World) : (binOp .eql 38 (.slice none 0 c) (.slice none 0 0)).run Tryz.prog W = .ok (.bool true) W := by kernel_rfl
theorem nilB_ne (A : Addr) (n c : Nat) (W : World) : (binOp .eql 38 (.slice (some A) n c) (.slice none 0 0)).run Tryz.prog W = .ok (.bool false) W := by kernel_rfl
theorem OB.empty (w : World) {T base : Nat} (hb : base ≤ w.heap.size) : OB (w.alloc (.cells #[] T)) T base (some ⟨w.heap.size, 0, none⟩) 0 0 [] :=
 ⟨rfl, ⟨rfl, .inr ⟨w.heap.size, 0, #[], rfl, hb, Blk.new w T #[], Nat.le_refl _, by unfold maxLen; omega, rfl, rfl⟩⟩⟩
/-- Bytes once more, of the call's own. -/
def RetCB (w : World) (l : List UInt8) (e : Ending) (w' : World) : Prop := ∃ (A : Option Addr) (n c : Nat), e = .returned (.slice A n c) ∧ OB w' 5 w.heap.size A n c l ∧ Below w.heap.size w w'
set_option maxHeartbeats 1000000 in
set_option maxRecDepth 100000 in
theorem cloneB (A : Option Addr) (n c : Nat) (l : List UInt8) (w : World) (h : BS w w.heap.size A n l) (hn : n ≤ 140737488355320) :
  Calls Tryz.prog 145 #[.slice A n c] w (RetCB w l) := by
 rcases A with _ | A
 ·have hl : l = [] := by
   rcases Nat.eq_zero_or_pos n with h0 | h0
   ·exact List.eq_nil_of_length_eq_zero (h.len.symm.trans h0)
   ·obtain ⟨b, off, e, _⟩ := h.form h0
    cases e
  subst hl
  have hb : BS w w.heap.size none n ([] : List UInt8) := h
  have hn0 : n = 0 := h.len
  subst hn0
  have e := nilB_eq c
  go_enter Tryz.func145, Tryz.ntmps145
  go_wp2_with fail
  go_ret
  exact ⟨none, 0, 0, rfl, OB.nil_, Below.refl _ _⟩
 ·have HLN := Lib.hid h.len
  have e := nilB_ne A n c
  go_enter Tryz.func145, Tryz.ntmps145
  go_wp2_with (at_builtin; refine wpl_app rfl (.tmp 5) (.tmp 6) _ rfl 5 Tryz.underlying38 u8info w.heap.size _ 0 0 [] (by rfl) (OB.empty w (Nat.le_refl _)) w.heap.size (some A) n c l (by rfl) (h.alloc (Nat.le_refl _) _) (by rw [← HLN.out]; simp; omega) (by simp) ?_; intro A2 n2 c2 w2 o2 b2 g2)
  all_goals go_ret
  all_goals exact ⟨A2, n2, c2, rfl, o2, ((Below.refl _ _).alloc (Nat.le_refl _) _).trans b2⟩
theorem RdI.form {w : World} {B n : Nat} {A : Option Addr} {l : List Int} (h : Reads w B 1 A n (iv l)) {j : Nat} (hj : j < n) : ∃ b off, A = some ⟨b, off, none⟩ ∧ b < B ∧ w.cell? ⟨b, off + j, none⟩ = some (.int .i64 (l[j]?.getD 0)) := Reads.formI h hj
set_option maxHeartbeats 1000000 in
set_option maxRecDepth 100000 in
theorem idxI (A : Option Addr) (n c : Nat) (l : List Int) (x : Int) (w : World) (B : Nat) (h : Reads w B 1 A n (iv l)) (hl : n = l.length) (hbd : n ≤ 35184372088832) :
  Calls Tryz.prog 199 #[.slice A n c, .int .i64 x] w fun en w' => (∃ v : Int, en = .returned (.int .i64 v) ∧ decide (0 ≤ v) = hasN l x) ∧ w = w' := by
 have HN := Lib.hid hl
 clear hl
 go_enter Tryz.func199, Tryz.ntmps199
 go_wp2_with fail
 go_loop [8] (fun i => ∃ j : Nat, j ≤ n ∧ i = .int .i64 j ∧ Hid (∀ i, i < j → l[i]?.getD 0 ≠ x)) (fun i => n - (intOf i).toNat)
 case atStart => exact ⟨0, by omega, rfl, Lib.hid fun i h => by omega⟩
 case round =>
  obtain ⟨j, hj, rfl, hno⟩ := hrel
  by_cases hlt : j < n
  ·obtain ⟨b, off, rfl, hbw, hcw⟩ := RdI.form h hlt
   have hd : decide ((j : Int) < n) = true := decide_eq_true (by omega)
   obtain ⟨y, hy⟩ : ∃ y, l[j]?.getD 0 = y := ⟨_, rfl⟩
   rw [hy] at hcw
   have HY := Lib.hid hy
   clear hy
   by_cases e : x = y
   ·subst e
    have HG := Lib.hid (hasN_at (by rw [← HN.out]; exact hlt) HY.out)
    go_wp2_with fail
    go_ret
    exact ⟨⟨j, rfl, by rw [HG.out]; exact decide_eq_true (by omega)⟩, rfl⟩
   ·have ht2 : (x == y) = false := by simpa using e
    have HS := Lib.hid (step_no hno.out (by rw [HY.out]; exact fun e' => e e'.symm))
    go_wp2_with fail
    go_round
    case rel => exact ⟨j + 1, by omega, by go_num, HS⟩
    case measure => simp [intOf]; omega
  ·have hd : decide ((j : Int) < n) = false := decide_eq_false (by omega)
   have HG := Lib.hid (hasN_no (l := l) (c := x) (fun i hi => hno.out i (by have := HN.out; omega)))
   go_wp2_with fail
   go_ret
   exact ⟨⟨-1, rfl, by rw [HG.out]; decide⟩, rfl⟩
set_option maxHeartbeats 1000000 in
set_option maxRecDepth 100000 in
theorem containsI (A : Option Addr) (n c : Nat) (l : List Int) (x : Int) (w : World) (B : Nat) (h : Reads w B 1 A n (iv l)) (hl : n = l.length) (hbd : n ≤ 35184372088832) :
  Calls Tryz.prog 147 #[.slice A n c, .int .i64 x] w fun en w' => en = .returned (.bool (hasN l x)) ∧ w = w' := by
 have HC := idxI A n c l x w B h hl hbd
 obtain ⟨r, hr⟩ : ∃ r, hasN l x = r := ⟨_, rfl⟩
 rw [hr] at HC ⊢
 clear hr hl
 go_enter Tryz.func147, Tryz.ntmps147
 go_wp2_with fail
 refine HC.mono ?_
 rintro _ _ ⟨⟨v, rfl, hv⟩, rfl⟩
 cases r
 all_goals
  go_wp2_with fail
  go_ret
  exact ⟨ret_b (by first | exact hv | rfl), rfl⟩
set_option maxHeartbeats 1000000 in
set_option maxRecDepth 100000 in
theorem unkOne (f t k : Int) (A : Option Addr) (n c gx : Nat) (w : World) (hk : w.cell? ⟨gx, 1, none⟩ = some (.int .i64 k)) (hx : gx < w.heap.size) :
  Calls Tryz.prog 201 #[.agg #[.int .i64 f, .int .i64 t, .slice A n c], .pointer (some ⟨gx, 0, none⟩)] w fun en w' => en = .returned (.bool (decide (k < t))) ∧ Below w.heap.size w w' := by
 obtain ⟨W, hW, hX, bW⟩ := box1c w #[.int .i64 f, .int .i64 t, .slice A n c] 168
 have e1 := hX.cell 1
 have k1 := (bW.cell (p := ⟨gx, 1, none⟩) hx).trans hk
 have HW := Lib.hid hW
 clear hW hk
 obtain ⟨r, hr⟩ : ∃ r, decide (k < t) = r := ⟨_, rfl⟩
 have HR := Lib.hid hr
 clear hr
 go_enter Tryz.func201, Tryz.ntmps201
 go_upto_region 1 with fail
 rw [HW.out]
 go_wp2_with fail
 go_ret
 exact ⟨ret_b (by first | rfl | exact HR.out | exact HR.out.symm), bW⟩
/-- Where a row's place is said. -/
theorem rawPos_at {l : List RawV} {k : Int} {j : Nat} {x : RawV} (hj : l[j]? = some x) (hx : k < x.2.1) (hb : ∀ i y, i < j → l[i]? = some y → y.2.1 ≤ k) : rawPos l k = j := by
 have hlj : j < l.length := (List.getElem?_eq_some_iff.1 hj).1
 have e : l[j] = x := (List.getElem?_eq_some_iff.1 hj).2
 unfold rawPos
 rw [List.findIdx_eq hlj]
 refine ⟨by rw [e]; exact decide_eq_true hx, fun i hi => ?_⟩
 have := hb i l[i] hi (List.getElem?_eq_getElem (by omega))
 simpa using this
theorem rawPos_no {l : List RawV} {k : Int} (hb : ∀ (i : Nat) (y : RawV), l[i]? = some y → y.2.1 ≤ k) : rawPos l k = l.length := by
 unfold rawPos
 refine List.findIdx_eq_length.2 fun x hx => ?_
 obtain ⟨i, hi⟩ := List.getElem?_of_mem hx
 have := hb i x hi
 simpa using this
theorem rawPos_le (l : List RawV) (k : Int) : rawPos l k ≤ l.length := List.findIdx_le_length
set_option maxHeartbeats 4000000 in
set_option maxRecDepth 100000 in
theorem idxRaw (A : Option Addr) (n c gx : Nat) (l : List RawV) (k : Int) (w : World) (hd : DL rRaw 3 w (Lo w) A n l) (hn : n ≤ 100000) (hx : gx < w.heap.size) (hk : w.cell? ⟨gx, 1, none⟩ = some (.int .i64 k)) :
  Calls Tryz.prog 200 #[.slice A n c, .func (.func 201) #[] #[.pointer (some ⟨gx, 0, none⟩)]] w fun e w' => (∃ v : Int, e = .returned (.int .i64 v) ∧ ((0 ≤ v ∧ v = (rawPos l k : Int) ∧ rawPos l k < l.length) ∨ (v = -1 ∧ rawPos l k = l.length))) ∧ Below w.heap.size w w' := by
 have HN := Lib.hid hd.len
 go_enter Tryz.func200, Tryz.ntmps200
 go_wp2_with fail
 go_loopw [8] (fun i wr => ∃ j : Nat, j ≤ n ∧ i = .int .i64 j ∧ Hid (∀ i y, i < j → l[i]? = some y → y.2.1 ≤ k) ∧ Below w.heap.size w wr) (fun i _ => n - (intOf i).toNat)
 case atStart => exact ⟨0, by omega, rfl, Lib.hid fun i y h => by omega, Below.refl _ _⟩
 case round =>
  obtain ⟨j, hj, rfl, HA, hb⟩ := hrel
  by_cases hlt : j < n
  case neg =>
   have e2 : decide ((j : Int) < n) = false := decide_eq_false (by omega)
   have HF := Lib.hid (show rawPos l k = l.length from rawPos_no fun i y hy => HA.out i y (by have := (List.getElem?_eq_some_iff.1 hy).1; have := HN.out; omega) hy)
   go_wp2_with fail
   go_ret
   exact ⟨⟨-1, rfl, .inr ⟨rfl, HF.out⟩⟩, hb⟩
  have e2 : decide ((j : Int) < n) = true := decide_eq_true (by omega)
  have hlti : (j : Int) < n := by omega
  obtain ⟨x, hxj⟩ := getL HN.out hlt
  have HX := Lib.hid hxj
  obtain ⟨b, off, A1, n1, c1, rfl, hbl, k0w, k1w, k2w, hnf, hnc', _, _⟩ := hd.rawAt hxj
  have hbl : b < w.heap.size := hbl
  clear hxj hnf
  have wj : IntKind.i64.wrap ((j : Int) + 1) = (j : Int) + 1 := IntWalk.i64_in _ ⟨by omega, by omega⟩
  have k0 := (hb.cell (p := ⟨b, off + j * 3, none⟩) hbl).trans k0w
  have k1 := (hb.cell (p := ⟨b, off + j * 3 + 1, none⟩) hbl).trans k1w
  have k2 := (hb.cell (p := ⟨b, off + j * 3 + 2, none⟩) hbl).trans k2w
  have kx := (hb.cell (p := ⟨gx, 1, none⟩) hx).trans hk
  have hxr : gx < wr.heap.size := Nat.lt_of_lt_of_le hx hb.size
  obtain ⟨f, hf⟩ : ∃ f, x.1 = f := ⟨_, rfl⟩
  obtain ⟨t, ht⟩ : ∃ t, x.2.1 = t := ⟨_, rfl⟩
  rw [hf] at k0
  rw [ht] at k1
  have HT := Lib.hid ht
  clear hf ht k0w k1w k2w
  obtain ⟨r, hr⟩ : ∃ r, decide (k < t) = r := ⟨_, rfl⟩
  have HC := Lib.hid (show Calls Tryz.prog 201 #[.agg #[.int .i64 f, .int .i64 t, .slice A1 n1 c1], .pointer (some ⟨gx, 0, none⟩)] wr fun en w' => en = .returned (.bool r) ∧ Below wr.heap.size wr w' from by rw [← hr]; exact unkOne f t k A1 n1 c1 gx wr kx hxr)
  have HR := Lib.hid hr
  clear hr kx
  go_wp2_with fail
  refine HC.out.mono ?_
  rintro _ w2 ⟨rfl, b2⟩
  have b02 := btr hb b2 hb.size
  cases r
  ·have HS := Lib.hid (show ∀ i y, i < j + 1 → l[i]? = some y → y.2.1 ≤ k from fun i y hi hy => by
    rcases Nat.lt_or_ge i j with h1 | h1
    ·exact HA.out i y h1 hy
    ·have : i = j := by omega
     subst this
     rw [HX.out] at hy
     injection hy with hy
     subst hy
     rw [HT.out]
     have := of_decide_eq_false HR.out
     omega)
   go_wp2_with fail
   go_roundw
   case rel => exact ⟨j + 1, by omega, by go_num, HS, b02⟩
   case measure => simp [intOf]; omega
  ·have HF := Lib.hid (show rawPos l k = j from rawPos_at HX.out (by rw [HT.out]; exact of_decide_eq_true HR.out) HA.out)
   have HJ := Lib.hid (show j < l.length by have := HN.out; omega)
   go_wp2_with fail
   go_ret
   exact ⟨⟨j, rfl, .inl ⟨by omega, by rw [HF.out], by rw [HF.out]; exact HJ.out⟩⟩, b02⟩
/-- A path of the call's own stays where a row of another type is written. -/
theorem OP.at_g {w w' : World} {base n c g : Nat} {A : Option Addr} {L : List (Seg × Hd)} {t : TypeId} {cs : Array Value} (h : OP w base A n c L) (hb : Blk w g t cs) (h1 : 229 ≠ t) (h2 : 22 ≠ t) (hg : w.grownBy w' (some g)) : OP w' base A n c L :=
 ⟨h.1, own_at h.2.1 hb h1 hg, fun y hy => ⟨(h.2.2.1 y hy).1, own_at (h.2.2.1 y hy).2.1 hb h2 hg, (h.2.2.1 y hy).2.2⟩, h.2.2.2⟩
theorem OU.at_g {w w' : World} {base n c g : Nat} {A : Option Addr} {l : List Int} {t : TypeId} {cs : Array Value} (h : OU w base A n c l) (hb : Blk w g t cs) (h2 : 22 ≠ t) (hg : w.grownBy w' (some g)) : OU w' base A n c l :=
 ⟨h.1, own_at h.2.1 hb h2 hg, h.2.2⟩
theorem grown_below {a b c : World} {row : Option Nat} (h : a.grownBy b row) (k : Below a.heap.size b c) : a.grownBy c row :=
 ⟨k.os.trans h.os, k.tape.trans h.tape, k.output.trans h.output, Nat.le_trans h.size k.size, fun i hi hne => (k.block i hi).trans (h.block i hi hne)⟩
theorem un32 {V : Nat} (h : V < 4294967296) : (Lit.int .u32 (V : Int)).wf = true := by
 simp [Lit.wf, IntKind.min, IntKind.max, IntKind.signed, IntKind.bits]; omega
/-- A path that bytes say, or the fault. -/
def RetRd (w : World) (r : Option (List Seg)) (e : Ending) (w' : World) : Prop :=
 Below w.heap.size w w' ∧ match r with
 | none => e = .returned (.tuple #[.slice none 0 0, .int .i64 5])
 | some l => ∃ (A : Option Addr) (n c : Nat) (L : List (Seg × Hd)), e = .returned (.tuple #[.slice A n c, .int .i64 0]) ∧ OP w' w.heap.size A n c L ∧ L.map (·.1) = l
set_option maxHeartbeats 8000000 in
set_option maxRecDepth 100000 in
theorem aspRead (A : Option Addr) (n c : Nat) (l : List UInt8) (wide : Bool) (w : World) (h : BS w w.heap.size A n l) (hn : n ≤ 140737488355320) :
  Calls Tryz.prog 203 #[.slice A n c, .bool wide] w (RetRd w (readA wide l)) := by
 have HLL := Lib.hid (show l.length ≤ 140737488355320 by rw [← h.len]; exact hn)
 go_enter Tryz.func203, Tryz.ntmps203
 go_wp2_with fail
 refine (rbNew A n c l _ h hn).mono ?_
 rintro _ w1 ⟨g, rfl, hg, r1, b1⟩
 have hgl := r1.lt
 obtain ⟨Bd, hBd⟩ : ∃ Bd, w1.heap.size = Bd := ⟨_, rfl⟩
 rw [hBd] at r1 hgl
 have HBD := Lib.hid hBd
 have HWB := Lib.hid (show w.heap.size ≤ Bd by rw [← hBd]; exact b1.size)
 clear hBd
 go_wp2_with fail
 go_loopg [6] 9 (fun gg x wr => ∃ (L : List (Seg × Hd)) (A1 : Option Addr) (n1 c1 : Nat) (t : List UInt8) (s : Bool), x = .slice A1 n1 c1 ∧ OP wr Bd A1 n1 c1 L ∧ RB Bd wr g t s ∧ Hid (InvO (szA wide) l (L.map (·.1)) gg t s) ∧ Below w.heap.size w wr ∧ Bd ≤ wr.heap.size ∧ n1 + gg = 9)
 case atStart => exact ⟨[], none, 0, 0, l, false, rfl, OP.nil_, r1, Lib.hid (InvO.start _ _), b1, Nat.le_of_eq HBD.out.symm, rfl⟩
 case round =>
  obtain ⟨L, A1, n1, c1, t, s, rfl, ho, r, HI, hb, hbd, hng⟩ := hrel
  obtain ⟨wo, rfl⟩ : ∃ wo, wo = wr := ⟨_, rfl⟩
  obtain ⟨gT, hgT⟩ : ∃ gT, gk = gT := ⟨_, rfl⟩
  have HTL := Lib.hid (show t.length ≤ 140737488355320 from Nat.le_trans HI.out.2.1 HLL.out)
  obtain ⟨T, hT⟩ : ∃ T, (if s then 0 else t.length) = T := ⟨_, rfl⟩
  have HLF := Lib.hid (show ∀ w', RB Bd w' g t s → Calls Tryz.prog 93 #[.pointer (some ⟨g, 0, none⟩)] w' fun en w'' => en = .returned (.int .i64 (T : Nat)) ∧ w' = w'' from fun w' h => by rw [← hT]; exact rbLeft g t s w' h)
  have HT := Lib.hid hT
  clear hT
  by_cases hT0 : T = 0
  case pos =>
   subst hT0
   clear hgT
   go_wp2_with fail
   refine (HLF.out _ r).mono ?_
   rintro _ _ ⟨rfl, rfl⟩
   cases s
   case true =>
    have HM := Lib.hid (show readA wide l = none from HI.out.bad)
    go_wp2_with fail
    refine (rbErr g t true _ r).mono ?_
    rintro _ _ ⟨rfl, rfl⟩
    go_wp2_with fail
    go_ret2
    refine ⟨hb, ?_⟩
    rw [HM.out]
    rfl
   case false =>
    have HTN := Lib.hid (show t = [] from List.eq_nil_of_length_eq_zero (by have := HT.out; simpa using this))
    have HM := Lib.hid (show readA wide l = if rightA (L.map (·.1)) = true then some (L.map (·.1)) else none from HI.out.good (.inl HTN.out))
    have hdl := ho.dl
    obtain ⟨rr, hrr⟩ : ∃ rr, rightA (L.map (·.1)) = rr := ⟨_, rfl⟩
    have HRR := Lib.hid hrr
    have HRI := Lib.hid (show ∀ w', DL rSeg 2 w' (Lo w') A1 n1 (L.map (·.1)) → Calls Tryz.prog 224 #[.slice A1 n1 c1] w' fun en w'' => en = .returned (.bool rr) ∧ Below w'.heap.size w' w'' from fun w' h => by rw [← hrr]; exact aspRight A1 n1 c1 _ w' h (by omega))
    clear hrr
    go_wp2_with fail
    refine (rbErr g t false _ r).mono ?_
    rintro _ _ ⟨rfl, rfl⟩
    go_wp2_with fail
    refine (HRI.out _ hdl).mono ?_
    rintro _ w9 ⟨rfl, b9⟩
    have ho9 := ho.call b9
    have b09 := btr hb b9 hb.size
    cases rr
    case true =>
     have HM2 := Lib.hid (show readA wide l = some (L.map (·.1)) by rw [HM.out, HRR.out]; rfl)
     go_wp2_with fail
     go_ret2
     refine ⟨b09, ?_⟩
     rw [HM2.out]
     exact ⟨A1, n1, c1, L, rfl, ho9.low HWB.out, rfl⟩
    case false =>
     have HM2 := Lib.hid (show readA wide l = none by rw [HM.out, HRR.out]; rfl)
     go_wp2_with fail
     go_ret2
     refine ⟨b09, ?_⟩
     rw [HM2.out]
     rfl
  have hTp : 0 < T := by omega
  have d1 : decide (0 < T) = true := decide_eq_true hTp
  clear hT0
  have hsf : s = false := by cases s; rfl; exact absurd HT.out (by simp; omega)
  subst hsf
  have HTL2 := Lib.hid (show t.length = T by have := HT.out; simpa using this)
  cases gk with
  | zero =>
   have hn9 : n1 = 9 := by omega
   have d2 : decide (n1 ≤ 8) = false := decide_eq_false (by omega)
   have d3 : decide ((n1 : Int) ≤ 8) = false := decide_eq_false (by omega)
   have HGG := Lib.hid hgT
   clear hgT hn9
   go_wp2_with fail
   refine (HLF.out _ r).mono ?_
   rintro _ _ ⟨rfl, rfl⟩
   have HM := Lib.hid (show readA wide l = if rightA (L.map (·.1)) = true then some (L.map (·.1)) else none from HI.out.good (.inr rfl))
   have hdl := ho.dl
   obtain ⟨rr, hrr⟩ : ∃ rr, rightA (L.map (·.1)) = rr := ⟨_, rfl⟩
   have HRR := Lib.hid hrr
   have HRI := Lib.hid (show ∀ w', DL rSeg 2 w' (Lo w') A1 n1 (L.map (·.1)) → Calls Tryz.prog 224 #[.slice A1 n1 c1] w' fun en w'' => en = .returned (.bool rr) ∧ Below w'.heap.size w' w'' from fun w' h => by rw [← hrr]; exact aspRight A1 n1 c1 _ w' h (by omega))
   clear hrr
   go_wp2_with fail
   refine (rbErr g t false _ r).mono ?_
   rintro _ _ ⟨rfl, rfl⟩
   go_wp2_with fail
   refine (HRI.out _ hdl).mono ?_
   rintro _ w9 ⟨rfl, b9⟩
   have ho9 := ho.call b9
   have b09 := btr hb b9 hb.size
   cases rr
   case true =>
    have HM2 := Lib.hid (show readA wide l = some (L.map (·.1)) by rw [HM.out, HRR.out]; rfl)
    go_wp2_with fail
    go_ret2
    refine ⟨b09, ?_⟩
    rw [HM2.out]
    exact ⟨A1, n1, c1, L, rfl, ho9.low HWB.out, rfl⟩
   case false =>
    have HM2 := Lib.hid (show readA wide l = none by rw [HM.out, HRR.out]; rfl)
    go_wp2_with fail
    go_ret2
    refine ⟨b09, ?_⟩
    rw [HM2.out]
    rfl
  | succ f =>
   clear hgT
   have hn8 : n1 ≤ 8 := by omega
   have d2 : decide (n1 ≤ 8) = true := decide_eq_true (by omega)
   have d3 : decide ((n1 : Int) ≤ 8) = true := decide_eq_true (by omega)
   obtain ⟨K, t1, s1, E1⟩ : ∃ v1 l1 s1, numL (tkOut t false (1 : Nat)) = v1 ∧ tkLeft t false (1 : Nat) = l1 ∧ tkShort t false (1 : Nat) = s1 := ⟨_, _, _, rfl, rfl, rfl⟩
   obtain ⟨C, t2, s2, E2⟩ : ∃ v1 l1 s', numL (tkOut t1 s1 (1 : Nat)) = v1 ∧ tkLeft t1 s1 (1 : Nat) = l1 ∧ tkShort t1 s1 (1 : Nat) = s' := ⟨_, _, _, rfl, rfl, rfl⟩
   have hC : C ≤ 255 := by rw [← E2.1]; have := tkOut_num t1 s1 1; omega
   have hK : K ≤ 255 := by rw [← E1.1]; have := tkOut_num t false 1; omega
   have HL1 := Lib.hid (show t1.length ≤ t.length by rw [← E1.2.1]; exact tkLeft_len _ _ _)
   have HL2 := Lib.hid (show t2.length ≤ t1.length by rw [← E2.2.1]; exact tkLeft_len _ _ _)
   have HB1 := Lib.hid (show ∀ w', RB Bd w' g t false → Calls Tryz.prog 175 #[.pointer (some ⟨g, 0, none⟩)] w' fun en w'' => en = .returned (.int .i64 (K : Nat)) ∧ RB Bd w'' g t1 s1 ∧ w'.grownBy w'' (some g) from fun w' h => by have := rbByte g t false w' h HTL.out; rw [E1.1, E1.2.1, E1.2.2] at this; exact this)
   have HB2 := Lib.hid (show ∀ w', RB Bd w' g t1 s1 → Calls Tryz.prog 175 #[.pointer (some ⟨g, 0, none⟩)] w' fun en w'' => en = .returned (.int .i64 (C : Nat)) ∧ RB Bd w'' g t2 s2 ∧ w'.grownBy w'' (some g) from fun w' h => by have := rbByte g t1 s1 w' h (Nat.le_trans HL1.out HTL.out); rw [E2.1, E2.2.1, E2.2.2] at this; exact this)
   have HE1 := Lib.hid E1
   have HE2 := Lib.hid E2
   clear E1 E2
   have HNE := Lib.hid (show t ≠ [] from fun e => by have h1 := HTL2.out; rw [e] at h1; simp at h1; omega)
   obtain ⟨cs0, hrb⟩ := r.blk
   go_wp2_with fail
   refine (HLF.out _ r).mono ?_
   rintro _ _ ⟨rfl, rfl⟩
   go_wp2_with fail
   refine (HB1.out _ r).mono ?_
   rintro _ w2 ⟨rfl, r2, g2⟩
   have z2 := g2.size
   go_wp2_with fail
   obtain ⟨w3, hw3, hQ3, b3⟩ := box1c w2 #[.int .i64 K, .slice none 0 0] 229
   try rw [hw3]
   clear hw3
   have hQl3 := hQ3.lt
   obtain ⟨q, hq⟩ : ∃ q, w2.heap.size = q := ⟨_, rfl⟩
   have g3 := grown_below g2 (b3.mono z2)
   have r3 := r2.below b3 (by omega) (by omega)
   rw [hq] at hQ3 hQl3
   try rw [hq]
   have hqo : wo.heap.size ≤ q := by omega
   clear hq b3
   refine (HB2.out _ r3).mono ?_
   rintro _ w4 ⟨rfl, r4, g4⟩
   have z4 := g4.size
   have hgq : q ≠ g := by omega
   have hQ4 := hQ3.grown g4 (by intro e; injection e with e; omega)
   have g04 := grown_tr g3 g4
   obtain ⟨B4, hB4⟩ : ∃ B4, w4.heap.size = B4 := ⟨_, rfl⟩
   have HB4 := Lib.hid hB4
   have hqB : q < B4 := by rw [← hB4]; omega
   have hoB : wo.heap.size ≤ B4 := by omega
   clear hB4
   have HII := Lib.hid (InvN.start (szA wide) C t2 s2)
   go_wp2_with fail
   go_loopw [9] (fun x wi => ∃ (m : Nat) (acc : List Int) (A2 : Option Addr) (n2 c2 : Nat) (t3 : List UInt8) (s3 : Bool), x = .int .i64 (m : Int) ∧ m ≤ 255 ∧ RB Bd wi g t3 s3 ∧ Blk wi q 229 #[.int .i64 K, .slice A2 n2 c2] ∧ OU wi B4 A2 n2 c2 acc ∧ wo.grownBy wi (some g) ∧ B4 ≤ wi.heap.size ∧ Hid (InvN (szA wide) C t2 s2 acc m t3 s3)) (fun x _ => (intOf x).toNat)
   case atStart => exact ⟨C, [], none, 0, 0, t2, s2, rfl, hC, r4, hQ4, OU.nil_, g04, Nat.le_of_eq HB4.out.symm, HII⟩
   case round =>
    obtain ⟨m, acc, A2, n2, c2, t3, s3, rfl, hm, ri, hQi, oi, gi, zi, HIi⟩ := hrel
    have HA := Lib.hid (show acc.length ≤ 255 by have := HIi.out.1; omega)
    by_cases hm0 : m = 0
    case pos =>
     subst hm0
     have HIO := Lib.hid (HI.out.step HNE.out HE1.out HE2.out HIi.out (.inr rfl))
     have hoi := ho.at_g hrb (by decide) (by decide) gi
     have bi := at_below hb gi hb.size (by omega)
     have oa := own_alloc2 hoi.2.1 (.cells #[.int .i64 K, .slice A2 n2 c2] 229)
     have B5 := bi.alloc bi.size (.cells #[.int .i64 K, .slice A2 n2 c2] 229)
     have HOP := (hoi.call ((Below.refl wr.heap.size wr).alloc (Nat.le_refl _) (.cells #[.int .i64 K, .slice A2 n2 c2] 229)))
     have hwB : Bd ≤ B4 := by omega
     have o3a := (oi.alloc (.cells #[.int .i64 K, .slice A2 n2 c2] 229)).low hwB
     have HAP := Lib.hid (ho.apt (y := (((K : Int), acc), (A2, n2, c2))) oi hoB)
     have ra := ri.below ((Below.refl wr.heap.size wr).alloc (Nat.le_refl _) (.cells #[.int .i64 K, .slice A2 n2 c2] 229)) (by omega) ri.lt
     have hbsz := bi.size
     have x0 : wr.cell? ⟨q, 0, none⟩ = some (.int .i64 (K : Int)) := hQi.cell 0
     have x1 : wr.cell? ⟨q, 1, none⟩ = some (.slice A2 n2 c2) := hQi.cell 1
     go_wp2_with (at_builtin; refine wpl_appR rfl (.tmp 50) (.tmp 52) 71 rfl 229 _ 2 32 Tryz.underlying71 seg_info rfl (by omega) Bd _ n1 _ _ (by rfl) oa (wr.heap.size + 1) (some ⟨wr.heap.size, 0, none⟩) 1 1 [.int .i64 K, .slice A2 n2 c2] (by rfl) (Reads.two wr 229 (.int .i64 K) (.slice A2 n2 c2) rfl) (by intro u hu; simp at hu; rcases hu with rfl | rfl <;> rfl) (by unfold maxLen; omega) (by omega) (by simp; omega) ?_; intro A6 c6 w6 o6 b6 g6 _)
     have hO6 := HOP.push (y := (((K : Int), acc), (A2, n2, c2))) o3a HAP.out o6 g6
     have r6 := ra.grown g6 (fun k hk => by
      have h1 := (hoi.2.1.lt k hk).1
      exact ⟨by omega, by omega⟩)
     have z6 := b6.size
     go_roundg f
     case measure => omega
     case rel => exact ⟨L ++ [(((K : Int), acc), (A2, n2, c2))], A6, _, c6, t3, _, rfl, hO6, r6, Lib.hid (by rw [List.map_append]; exact HIO.out), B5.trans (b6.mono HWB.out), by simp at z6; omega, by omega⟩
    have hmp : 0 < m := by omega
    have d4 : decide (0 < m) = true := decide_eq_true hmp
    have HMP := Lib.hid hmp
    clear hm0 hmp
    cases s3
    case true =>
     go_wp2_with fail
     refine (rbErr g t3 true _ ri).mono ?_
     rintro _ _ ⟨rfl, rfl⟩
     have HIO := Lib.hid (HI.out.step HNE.out HE1.out HE2.out HIi.out (.inl rfl))
     have hoi := ho.at_g hrb (by decide) (by decide) gi
     have bi := at_below hb gi hb.size (by omega)
     have oa := own_alloc2 hoi.2.1 (.cells #[.int .i64 K, .slice A2 n2 c2] 229)
     have B5 := bi.alloc bi.size (.cells #[.int .i64 K, .slice A2 n2 c2] 229)
     have HOP := (hoi.call ((Below.refl wr.heap.size wr).alloc (Nat.le_refl _) (.cells #[.int .i64 K, .slice A2 n2 c2] 229)))
     have hwB : Bd ≤ B4 := by omega
     have o3a := (oi.alloc (.cells #[.int .i64 K, .slice A2 n2 c2] 229)).low hwB
     have HAP := Lib.hid (ho.apt (y := (((K : Int), acc), (A2, n2, c2))) oi hoB)
     have ra := ri.below ((Below.refl wr.heap.size wr).alloc (Nat.le_refl _) (.cells #[.int .i64 K, .slice A2 n2 c2] 229)) (by omega) ri.lt
     have hbsz := bi.size
     have x0 : wr.cell? ⟨q, 0, none⟩ = some (.int .i64 (K : Int)) := hQi.cell 0
     have x1 : wr.cell? ⟨q, 1, none⟩ = some (.slice A2 n2 c2) := hQi.cell 1
     go_wp2_with (at_builtin; refine wpl_appR rfl (.tmp 50) (.tmp 52) 71 rfl 229 _ 2 32 Tryz.underlying71 seg_info rfl (by omega) Bd _ n1 _ _ (by rfl) oa (wr.heap.size + 1) (some ⟨wr.heap.size, 0, none⟩) 1 1 [.int .i64 K, .slice A2 n2 c2] (by rfl) (Reads.two wr 229 (.int .i64 K) (.slice A2 n2 c2) rfl) (by intro u hu; simp at hu; rcases hu with rfl | rfl <;> rfl) (by unfold maxLen; omega) (by omega) (by simp; omega) ?_; intro A6 c6 w6 o6 b6 g6 _)
     have hO6 := HOP.push (y := (((K : Int), acc), (A2, n2, c2))) o3a HAP.out o6 g6
     have r6 := ra.grown g6 (fun k hk => by
      have h1 := (hoi.2.1.lt k hk).1
      exact ⟨by omega, by omega⟩)
     have z6 := b6.size
     go_roundg f
     case measure => omega
     case rel => exact ⟨L ++ [(((K : Int), acc), (A2, n2, c2))], A6, _, c6, t3, _, rfl, hO6, r6, Lib.hid (by rw [List.map_append]; exact HIO.out), B5.trans (b6.mono HWB.out), by simp at z6; omega, by omega⟩
    case false =>
     have HIi2 := Lib.hid (show InvN (szA wide) C t2 s2 acc ((m - 1) + 1) t3 false by rw [show m - 1 + 1 = m by have := HMP.out; omega]; exact HIi.out)
     have HT3 := Lib.hid (show t3.length ≤ 140737488355320 by have h1 := HIi.out.2.1; have h2 := HL2.out; have h3 := HL1.out; have h4 := HTL.out; omega)
     have wj : IntKind.i64.wrap ((m : Int) - 1) = ((m - 1 : Nat) : Int) := by rw [show ((m - 1 : Nat) : Int) = (m : Int) - 1 by have := HMP.out; omega]; exact IntWalk.i64_in _ ⟨by have := HMP.out; omega, by have := HMP.out; omega⟩
     have hQd : Blk wr.drew q 229 #[.int .i64 K, .slice A2 n2 c2] := hQi
     have rid : RB Bd wr.drew g t3 false := ri
     have oid : OU wr.drew B4 A2 n2 c2 acc := oi
     have gid : wo.grownBy wr.drew (some g) := ⟨gi.os, gi.tape, gi.output, gi.size, gi.block⟩
     have zid : B4 ≤ wr.drew.heap.size := zi
     have q1d := hQd.cell 1
     have hgo : g < wo.heap.size := hrb.lt
     cases wide
     case true =>
      obtain ⟨V, t4, s4, E3⟩ : ∃ v1 l1 s', numL (tkOut t3 false (4 : Nat)) = v1 ∧ tkLeft t3 false (4 : Nat) = l1 ∧ tkShort t3 false (4 : Nat) = s' := ⟨_, _, _, rfl, rfl, rfl⟩
      have HV := Lib.hid (show V < 4294967296 by rw [← E3.1]; have := tkOut_num t3 false 4; omega)
      have HB3 := Lib.hid (show ∀ w', RB Bd w' g t3 false → Calls Tryz.prog 176 #[.pointer (some ⟨g, 0, none⟩)] w' fun en w'' => en = .returned (.int .u32 (V : Nat)) ∧ RB Bd w'' g t4 s4 ∧ w'.grownBy w'' (some g) from fun w' h => by have := rbU32 g t3 false w' h HT3.out; rw [E3.1, E3.2.1, E3.2.2] at this; exact this)
      have HIN := Lib.hid (show InvN (szA true) C t2 s2 (acc ++ [(V : Int)]) (m - 1) t4 s4 by have := (show InvN 4 C t2 s2 acc ((m - 1) + 1) t3 false from HIi2.out).step; rw [E3.1, E3.2.1, E3.2.2] at this; exact this)
      have hvw : (Lit.int .u32 (V : Int)).wf = true := un32 (by have := HV.out; omega)
      clear E3
      go_wp2_with fail
      refine (rbErr g t3 false _ ri).mono ?_
      rintro _ _ ⟨rfl, rfl⟩
      go_upto_region 9 with fail
      rename_i hk
      have HKK := Lib.hid hk
      clear hk
      refine wp_region_held_drew (S := (fun _ => True)) (by kernel_rfl) ?_ (fun hHeld => ?_)
      ·first | done | trivial
      refine tkh 0 (h := ?_)
      try simp only [Act.put, q1, q2, q3, q4, q5, q6]
      refine tkh 2 (h := ?_)
      try simp only [Act.put, q1, q2, q3, q4, q5, q6]
      refine wpAnyH_ready (rs := [1, 3]) (by kernel_rfl) (by simp) ?_
      refine AllReadyH.cons rfl (fun K hK => ?_) (AllReadyH.cons rfl (fun K hK => ?_) AllReadyH.nil)
      ·skip
       go_simp
       go_wp2_with (fail)
       refine hK.out _ _ trivial (fun hHeld => ?_)
       clear hK K
       refine tkr 3 fun K hK => ?_
       go_simp
       go_wp2_with ((go_at_call 176; refine (HB3.out _ rid).mono ?_; rintro _ w5 ⟨rfl, r5, g5⟩; have z5 := g5.size; have hQ5 := hQd.grown g5 (by intro e; injection e with e; omega); have q15 := hQ5.cell 1; obtain ⟨cs1, hrb1⟩ := rid.blk; have o5 := oid.at_g hrb1 (by decide) g5; have al5 := o5.alloc (.cells #[.int .u32 (V : Int)] 22); have hQ5a := hQ5.alloc (.cells #[.int .u32 (V : Int)] 22); have q15a := hQ5a.cell 1; have r5a := r5.below ((Below.refl w5.heap.size w5).alloc (Nat.le_refl _) (.cells #[.int .u32 (V : Int)] 22)) (by omega) r5.lt; have g05 := grown_tr gid g5; have HSZ5 := Lib.hid (show B4 ≤ (w5.alloc (.cells #[.int .u32 (V : Int)] 22)).heap.size by simp; omega)))
       refine hK.out _ _ trivial (fun hHeld => ?_)
       clear hK K
       refine tkr 4 fun K hK => ?_
       go_simp
       go_wp2_with (fail)
       refine hK.out _ _ trivial (fun hHeld => ?_)
       clear hK K
       refine tkr 5 fun K hK => ?_
       refine step_appU rfl (.tmp 36) (.tmp 39) rfl B4 A2 n2 c2 acc (by rfl) al5 (w5.heap.size + 1) (some ⟨w5.heap.size, 0, none⟩) 1 1 [(V : Int)] (by rfl) (NS.one w5 hvw rfl) (by have := HA.out; simp; omega) HSZ5.out ?_; intro A6 n6 c6 w6 o6 b6 g6 hat; have hQ6 := hQ5a.grown g6 (by intro e; first | exact own_blk_ne al5.2.1 hQ5a (by decide) e | exact own_blk_ne al5.2.1 hQ5a (by decide) e.symm); have f1 := hQ6.frozen 1; have q16 := hQ6.cell 1
       refine hK.out _ _ ?_ (fun hHeld => ?_)
       ·try dsimp only
        first | done | trivial
       clear hK K
       refine tkh 6 (h := ?_)
       try simp only [Act.put, q1, q2, q3, q4, q5, q6]
       refine tkr 7 fun K hK => ?_
       go_simp
       go_wp2_with (fail)
       refine hK.out _ _ ?_ (fun hHeld => ?_)
       ·try dsimp only
        first | done | trivial
       clear hK K
       refine wpAnyH_done (by kernel_rfl) ?_ _
       refine HKK.out _ _ ?_
       have r6 := r5a.grown g6 (fun k hk => by
        have h1 := (al5.2.1.lt k hk).1
        exact ⟨by omega, by omega⟩)
       have hQ7 := hQ6.set_ 1 (.slice A6 n6 c6)
       simp only [List.setIfInBounds_toArray, List.set_cons_succ, List.set_cons_zero] at hQ7
       have gq := only_setCell (World.grownBy.refl w6 (some q)) (p := ⟨q, 1, none⟩) (.inl rfl) (.slice A6 n6 c6)
       have o7 := o6.at_g hQ6 (by decide) gq
       have r7 := r6.setCell (p := ⟨q, 1, none⟩) (by show Bd ≤ q; omega) (by show q ≠ g; omega) (.slice A6 n6 c6)
       have b57 : Below wo.heap.size w5 (w6.setCell ⟨q, 1, none⟩ (.slice A6 n6 c6)) := (((Below.refl wo.heap.size w5).alloc (by omega) (.cells #[.int .u32 (V : Int)] 22)).trans (b6.mono (by omega))).setCell (p := ⟨q, 1, none⟩) (by show wo.heap.size ≤ q; omega) (.slice A6 n6 c6)
       have g07 := grown_below g05 b57
       have z7 : B4 ≤ (w6.setCell ⟨q, 1, none⟩ (.slice A6 n6 c6)).heap.size := by have h1 := b6.size; have h2 := HSZ5.out; simp [World.setCell] at h1 h2 ⊢; omega
       clear q16 f1 q15 q15a q1d
       go_wp2_with fail
       go_roundw
       case rel => exact ⟨m - 1, acc ++ [(V : Int)], A6, n6, c6, t4, s4, rfl, by omega, r7, hQ7, o7, g07, z7, HIN⟩
       case measure => have := HMP.out; simp [intOf]; omega
      ·skip
       go_simp
       go_wp2_with ((go_at_call 176; refine (HB3.out _ rid).mono ?_; rintro _ w5 ⟨rfl, r5, g5⟩; have z5 := g5.size; have hQ5 := hQd.grown g5 (by intro e; injection e with e; omega); have q15 := hQ5.cell 1; obtain ⟨cs1, hrb1⟩ := rid.blk; have o5 := oid.at_g hrb1 (by decide) g5; have al5 := o5.alloc (.cells #[.int .u32 (V : Int)] 22); have hQ5a := hQ5.alloc (.cells #[.int .u32 (V : Int)] 22); have q15a := hQ5a.cell 1; have r5a := r5.below ((Below.refl w5.heap.size w5).alloc (Nat.le_refl _) (.cells #[.int .u32 (V : Int)] 22)) (by omega) r5.lt; have g05 := grown_tr gid g5; have HSZ5 := Lib.hid (show B4 ≤ (w5.alloc (.cells #[.int .u32 (V : Int)] 22)).heap.size by simp; omega)))
       refine hK.out _ _ trivial (fun hHeld => ?_)
       clear hK K
       refine wpAnyH_ready (rs := [1, 4]) (by kernel_rfl) (by simp) ?_
       refine AllReadyH.cons rfl (fun K hK => ?_) (AllReadyH.cons rfl (fun K hK => ?_) AllReadyH.nil)
       ·skip
        go_simp
        go_wp2_with (fail)
        refine hK.out _ _ trivial (fun hHeld => ?_)
        clear hK K
        refine tkr 4 fun K hK => ?_
        go_simp
        go_wp2_with (fail)
        refine hK.out _ _ trivial (fun hHeld => ?_)
        clear hK K
        refine tkr 5 fun K hK => ?_
        refine step_appU rfl (.tmp 36) (.tmp 39) rfl B4 A2 n2 c2 acc (by rfl) al5 (w5.heap.size + 1) (some ⟨w5.heap.size, 0, none⟩) 1 1 [(V : Int)] (by rfl) (NS.one w5 hvw rfl) (by have := HA.out; simp; omega) HSZ5.out ?_; intro A6 n6 c6 w6 o6 b6 g6 hat; have hQ6 := hQ5a.grown g6 (by intro e; first | exact own_blk_ne al5.2.1 hQ5a (by decide) e | exact own_blk_ne al5.2.1 hQ5a (by decide) e.symm); have f1 := hQ6.frozen 1; have q16 := hQ6.cell 1
        refine hK.out _ _ ?_ (fun hHeld => ?_)
        ·try dsimp only
         first | done | trivial
        clear hK K
        refine tkh 6 (h := ?_)
        try simp only [Act.put, q1, q2, q3, q4, q5, q6]
        refine tkr 7 fun K hK => ?_
        go_simp
        go_wp2_with (fail)
        refine hK.out _ _ ?_ (fun hHeld => ?_)
        ·try dsimp only
         first | done | trivial
        clear hK K
        refine wpAnyH_done (by kernel_rfl) ?_ _
        refine HKK.out _ _ ?_
        have r6 := r5a.grown g6 (fun k hk => by
         have h1 := (al5.2.1.lt k hk).1
         exact ⟨by omega, by omega⟩)
        have hQ7 := hQ6.set_ 1 (.slice A6 n6 c6)
        simp only [List.setIfInBounds_toArray, List.set_cons_succ, List.set_cons_zero] at hQ7
        have gq := only_setCell (World.grownBy.refl w6 (some q)) (p := ⟨q, 1, none⟩) (.inl rfl) (.slice A6 n6 c6)
        have o7 := o6.at_g hQ6 (by decide) gq
        have r7 := r6.setCell (p := ⟨q, 1, none⟩) (by show Bd ≤ q; omega) (by show q ≠ g; omega) (.slice A6 n6 c6)
        have b57 : Below wo.heap.size w5 (w6.setCell ⟨q, 1, none⟩ (.slice A6 n6 c6)) := (((Below.refl wo.heap.size w5).alloc (by omega) (.cells #[.int .u32 (V : Int)] 22)).trans (b6.mono (by omega))).setCell (p := ⟨q, 1, none⟩) (by show wo.heap.size ≤ q; omega) (.slice A6 n6 c6)
        have g07 := grown_below g05 b57
        have z7 : B4 ≤ (w6.setCell ⟨q, 1, none⟩ (.slice A6 n6 c6)).heap.size := by have h1 := b6.size; have h2 := HSZ5.out; simp [World.setCell] at h1 h2 ⊢; omega
        clear q16 f1 q15 q15a q1d
        go_wp2_with fail
        go_roundw
        case rel => exact ⟨m - 1, acc ++ [(V : Int)], A6, n6, c6, t4, s4, rfl, by omega, r7, hQ7, o7, g07, z7, HIN⟩
        case measure => have := HMP.out; simp [intOf]; omega
       ·skip
        go_simp
        go_wp2_with (fail)
        refine hK.out _ _ trivial (fun hHeld => ?_)
        clear hK K
        refine tkr 1 fun K hK => ?_
        go_simp
        go_wp2_with (fail)
        refine hK.out _ _ trivial (fun hHeld => ?_)
        clear hK K
        refine tkr 5 fun K hK => ?_
        refine step_appU rfl (.tmp 36) (.tmp 39) rfl B4 A2 n2 c2 acc (by rfl) al5 (w5.heap.size + 1) (some ⟨w5.heap.size, 0, none⟩) 1 1 [(V : Int)] (by rfl) (NS.one w5 hvw rfl) (by have := HA.out; simp; omega) HSZ5.out ?_; intro A6 n6 c6 w6 o6 b6 g6 hat; have hQ6 := hQ5a.grown g6 (by intro e; first | exact own_blk_ne al5.2.1 hQ5a (by decide) e | exact own_blk_ne al5.2.1 hQ5a (by decide) e.symm); have f1 := hQ6.frozen 1; have q16 := hQ6.cell 1
        refine hK.out _ _ ?_ (fun hHeld => ?_)
        ·try dsimp only
         first | done | trivial
        clear hK K
        refine tkh 6 (h := ?_)
        try simp only [Act.put, q1, q2, q3, q4, q5, q6]
        refine tkr 7 fun K hK => ?_
        go_simp
        go_wp2_with (fail)
        refine hK.out _ _ ?_ (fun hHeld => ?_)
        ·try dsimp only
         first | done | trivial
        clear hK K
        refine wpAnyH_done (by kernel_rfl) ?_ _
        refine HKK.out _ _ ?_
        have r6 := r5a.grown g6 (fun k hk => by
         have h1 := (al5.2.1.lt k hk).1
         exact ⟨by omega, by omega⟩)
        have hQ7 := hQ6.set_ 1 (.slice A6 n6 c6)
        simp only [List.setIfInBounds_toArray, List.set_cons_succ, List.set_cons_zero] at hQ7
        have gq := only_setCell (World.grownBy.refl w6 (some q)) (p := ⟨q, 1, none⟩) (.inl rfl) (.slice A6 n6 c6)
        have o7 := o6.at_g hQ6 (by decide) gq
        have r7 := r6.setCell (p := ⟨q, 1, none⟩) (by show Bd ≤ q; omega) (by show q ≠ g; omega) (.slice A6 n6 c6)
        have b57 : Below wo.heap.size w5 (w6.setCell ⟨q, 1, none⟩ (.slice A6 n6 c6)) := (((Below.refl wo.heap.size w5).alloc (by omega) (.cells #[.int .u32 (V : Int)] 22)).trans (b6.mono (by omega))).setCell (p := ⟨q, 1, none⟩) (by show wo.heap.size ≤ q; omega) (.slice A6 n6 c6)
        have g07 := grown_below g05 b57
        have z7 : B4 ≤ (w6.setCell ⟨q, 1, none⟩ (.slice A6 n6 c6)).heap.size := by have h1 := b6.size; have h2 := HSZ5.out; simp [World.setCell] at h1 h2 ⊢; omega
        clear q16 f1 q15 q15a q1d
        go_wp2_with fail
        go_roundw
        case rel => exact ⟨m - 1, acc ++ [(V : Int)], A6, n6, c6, t4, s4, rfl, by omega, r7, hQ7, o7, g07, z7, HIN⟩
        case measure => have := HMP.out; simp [intOf]; omega
     case false =>
      obtain ⟨V, t4, s4, E3⟩ : ∃ v1 l1 s', numL (tkOut t3 false (2 : Nat)) = v1 ∧ tkLeft t3 false (2 : Nat) = l1 ∧ tkShort t3 false (2 : Nat) = s' := ⟨_, _, _, rfl, rfl, rfl⟩
      have HV := Lib.hid (show V < 65536 by rw [← E3.1]; have := tkOut_num t3 false 2; omega)
      have HB3 := Lib.hid (show ∀ w', RB Bd w' g t3 false → Calls Tryz.prog 88 #[.pointer (some ⟨g, 0, none⟩)] w' fun en w'' => en = .returned (.int .i64 (V : Nat)) ∧ RB Bd w'' g t4 s4 ∧ w'.grownBy w'' (some g) from fun w' h => by have := rbU16 g t3 false w' h HT3.out; rw [E3.1, E3.2.1, E3.2.2] at this; exact this)
      have HIN := Lib.hid (show InvN (szA false) C t2 s2 (acc ++ [(V : Int)]) (m - 1) t4 s4 by have := (show InvN 2 C t2 s2 acc ((m - 1) + 1) t3 false from HIi2.out).step; rw [E3.1, E3.2.1, E3.2.2] at this; exact this)
      have hvw : (Lit.int .u32 (V : Int)).wf = true := un32 (by have := HV.out; omega)
      have hcw : IntKind.u32.wrap (V : Int) = (V : Int) := by rw [IntKind.wrap_u32]; have := HV.out; omega
      clear E3
      go_wp2_with fail
      refine (rbErr g t3 false _ ri).mono ?_
      rintro _ _ ⟨rfl, rfl⟩
      go_upto_region 10 with fail
      rename_i hk
      have HKK := Lib.hid hk
      clear hk
      refine wp_region_held_drew (S := (fun _ => True)) (by kernel_rfl) ?_ (fun hHeld => ?_)
      ·first | done | trivial
      refine tkh 0 (h := ?_)
      try simp only [Act.put, q1, q2, q3, q4, q5, q6]
      refine tkh 2 (h := ?_)
      try simp only [Act.put, q1, q2, q3, q4, q5, q6]
      refine wpAnyH_ready (rs := [1, 3]) (by kernel_rfl) (by simp) ?_
      refine AllReadyH.cons rfl (fun K hK => ?_) (AllReadyH.cons rfl (fun K hK => ?_) AllReadyH.nil)
      ·skip
       go_simp
       go_wp2_with (fail)
       refine hK.out _ _ trivial (fun hHeld => ?_)
       clear hK K
       refine tkr 3 fun K hK => ?_
       go_simp
       go_wp2_with ((go_at_call 88; refine (HB3.out _ rid).mono ?_; rintro _ w5 ⟨rfl, r5, g5⟩; have z5 := g5.size; have hQ5 := hQd.grown g5 (by intro e; injection e with e; omega); have q15 := hQ5.cell 1; obtain ⟨cs1, hrb1⟩ := rid.blk; have o5 := oid.at_g hrb1 (by decide) g5; have al5 := o5.alloc (.cells #[.int .u32 (V : Int)] 22); have hQ5a := hQ5.alloc (.cells #[.int .u32 (V : Int)] 22); have q15a := hQ5a.cell 1; have r5a := r5.below ((Below.refl w5.heap.size w5).alloc (Nat.le_refl _) (.cells #[.int .u32 (V : Int)] 22)) (by omega) r5.lt; have g05 := grown_tr gid g5; have HSZ5 := Lib.hid (show B4 ≤ (w5.alloc (.cells #[.int .u32 (V : Int)] 22)).heap.size by simp; omega)))
       refine hK.out _ _ trivial (fun hHeld => ?_)
       clear hK K
       refine tkh 4 (h := ?_)
       try simp only [Act.put, q1, q2, q3, q4, q5, q6]
       refine tkr 5 fun K hK => ?_
       go_simp
       go_wp2_with (fail)
       refine hK.out _ _ trivial (fun hHeld => ?_)
       clear hK K
       refine tkr 6 fun K hK => ?_
       refine step_appU rfl (.tmp 43) (.tmp 47) rfl B4 A2 n2 c2 acc (by rfl) al5 (w5.heap.size + 1) (some ⟨w5.heap.size, 0, none⟩) 1 1 [(V : Int)] (by rfl) (NS.one w5 hvw rfl) (by have := HA.out; simp; omega) HSZ5.out ?_; intro A6 n6 c6 w6 o6 b6 g6 hat; have hQ6 := hQ5a.grown g6 (by intro e; first | exact own_blk_ne al5.2.1 hQ5a (by decide) e | exact own_blk_ne al5.2.1 hQ5a (by decide) e.symm); have f1 := hQ6.frozen 1; have q16 := hQ6.cell 1
       refine hK.out _ _ ?_ (fun hHeld => ?_)
       ·try dsimp only
        first | done | trivial
       clear hK K
       refine tkh 7 (h := ?_)
       try simp only [Act.put, q1, q2, q3, q4, q5, q6]
       refine tkr 8 fun K hK => ?_
       go_simp
       go_wp2_with (fail)
       refine hK.out _ _ ?_ (fun hHeld => ?_)
       ·try dsimp only
        first | done | trivial
       clear hK K
       refine wpAnyH_done (by kernel_rfl) ?_ _
       refine HKK.out _ _ ?_
       have r6 := r5a.grown g6 (fun k hk => by
        have h1 := (al5.2.1.lt k hk).1
        exact ⟨by omega, by omega⟩)
       have hQ7 := hQ6.set_ 1 (.slice A6 n6 c6)
       simp only [List.setIfInBounds_toArray, List.set_cons_succ, List.set_cons_zero] at hQ7
       have gq := only_setCell (World.grownBy.refl w6 (some q)) (p := ⟨q, 1, none⟩) (.inl rfl) (.slice A6 n6 c6)
       have o7 := o6.at_g hQ6 (by decide) gq
       have r7 := r6.setCell (p := ⟨q, 1, none⟩) (by show Bd ≤ q; omega) (by show q ≠ g; omega) (.slice A6 n6 c6)
       have b57 : Below wo.heap.size w5 (w6.setCell ⟨q, 1, none⟩ (.slice A6 n6 c6)) := (((Below.refl wo.heap.size w5).alloc (by omega) (.cells #[.int .u32 (V : Int)] 22)).trans (b6.mono (by omega))).setCell (p := ⟨q, 1, none⟩) (by show wo.heap.size ≤ q; omega) (.slice A6 n6 c6)
       have g07 := grown_below g05 b57
       have z7 : B4 ≤ (w6.setCell ⟨q, 1, none⟩ (.slice A6 n6 c6)).heap.size := by have h1 := b6.size; have h2 := HSZ5.out; simp [World.setCell] at h1 h2 ⊢; omega
       clear q16 f1 q15 q15a q1d
       go_wp2_with fail
       go_roundw
       case rel => exact ⟨m - 1, acc ++ [(V : Int)], A6, n6, c6, t4, s4, rfl, by omega, r7, hQ7, o7, g07, z7, HIN⟩
       case measure => have := HMP.out; simp [intOf]; omega
      ·skip
       go_simp
       go_wp2_with ((go_at_call 88; refine (HB3.out _ rid).mono ?_; rintro _ w5 ⟨rfl, r5, g5⟩; have z5 := g5.size; have hQ5 := hQd.grown g5 (by intro e; injection e with e; omega); have q15 := hQ5.cell 1; obtain ⟨cs1, hrb1⟩ := rid.blk; have o5 := oid.at_g hrb1 (by decide) g5; have al5 := o5.alloc (.cells #[.int .u32 (V : Int)] 22); have hQ5a := hQ5.alloc (.cells #[.int .u32 (V : Int)] 22); have q15a := hQ5a.cell 1; have r5a := r5.below ((Below.refl w5.heap.size w5).alloc (Nat.le_refl _) (.cells #[.int .u32 (V : Int)] 22)) (by omega) r5.lt; have g05 := grown_tr gid g5; have HSZ5 := Lib.hid (show B4 ≤ (w5.alloc (.cells #[.int .u32 (V : Int)] 22)).heap.size by simp; omega)))
       refine hK.out _ _ trivial (fun hHeld => ?_)
       clear hK K
       refine tkh 4 (h := ?_)
       try simp only [Act.put, q1, q2, q3, q4, q5, q6]
       refine wpAnyH_ready (rs := [1, 5]) (by kernel_rfl) (by simp) ?_
       refine AllReadyH.cons rfl (fun K hK => ?_) (AllReadyH.cons rfl (fun K hK => ?_) AllReadyH.nil)
       ·skip
        go_simp
        go_wp2_with (fail)
        refine hK.out _ _ trivial (fun hHeld => ?_)
        clear hK K
        refine tkr 5 fun K hK => ?_
        go_simp
        go_wp2_with (fail)
        refine hK.out _ _ trivial (fun hHeld => ?_)
        clear hK K
        refine tkr 6 fun K hK => ?_
        refine step_appU rfl (.tmp 43) (.tmp 47) rfl B4 A2 n2 c2 acc (by rfl) al5 (w5.heap.size + 1) (some ⟨w5.heap.size, 0, none⟩) 1 1 [(V : Int)] (by rfl) (NS.one w5 hvw rfl) (by have := HA.out; simp; omega) HSZ5.out ?_; intro A6 n6 c6 w6 o6 b6 g6 hat; have hQ6 := hQ5a.grown g6 (by intro e; first | exact own_blk_ne al5.2.1 hQ5a (by decide) e | exact own_blk_ne al5.2.1 hQ5a (by decide) e.symm); have f1 := hQ6.frozen 1; have q16 := hQ6.cell 1
        refine hK.out _ _ ?_ (fun hHeld => ?_)
        ·try dsimp only
         first | done | trivial
        clear hK K
        refine tkh 7 (h := ?_)
        try simp only [Act.put, q1, q2, q3, q4, q5, q6]
        refine tkr 8 fun K hK => ?_
        go_simp
        go_wp2_with (fail)
        refine hK.out _ _ ?_ (fun hHeld => ?_)
        ·try dsimp only
         first | done | trivial
        clear hK K
        refine wpAnyH_done (by kernel_rfl) ?_ _
        refine HKK.out _ _ ?_
        have r6 := r5a.grown g6 (fun k hk => by
         have h1 := (al5.2.1.lt k hk).1
         exact ⟨by omega, by omega⟩)
        have hQ7 := hQ6.set_ 1 (.slice A6 n6 c6)
        simp only [List.setIfInBounds_toArray, List.set_cons_succ, List.set_cons_zero] at hQ7
        have gq := only_setCell (World.grownBy.refl w6 (some q)) (p := ⟨q, 1, none⟩) (.inl rfl) (.slice A6 n6 c6)
        have o7 := o6.at_g hQ6 (by decide) gq
        have r7 := r6.setCell (p := ⟨q, 1, none⟩) (by show Bd ≤ q; omega) (by show q ≠ g; omega) (.slice A6 n6 c6)
        have b57 : Below wo.heap.size w5 (w6.setCell ⟨q, 1, none⟩ (.slice A6 n6 c6)) := (((Below.refl wo.heap.size w5).alloc (by omega) (.cells #[.int .u32 (V : Int)] 22)).trans (b6.mono (by omega))).setCell (p := ⟨q, 1, none⟩) (by show wo.heap.size ≤ q; omega) (.slice A6 n6 c6)
        have g07 := grown_below g05 b57
        have z7 : B4 ≤ (w6.setCell ⟨q, 1, none⟩ (.slice A6 n6 c6)).heap.size := by have h1 := b6.size; have h2 := HSZ5.out; simp [World.setCell] at h1 h2 ⊢; omega
        clear q16 f1 q15 q15a q1d
        go_wp2_with fail
        go_roundw
        case rel => exact ⟨m - 1, acc ++ [(V : Int)], A6, n6, c6, t4, s4, rfl, by omega, r7, hQ7, o7, g07, z7, HIN⟩
        case measure => have := HMP.out; simp [intOf]; omega
       ·skip
        go_simp
        go_wp2_with (fail)
        refine hK.out _ _ trivial (fun hHeld => ?_)
        clear hK K
        refine tkr 1 fun K hK => ?_
        go_simp
        go_wp2_with (fail)
        refine hK.out _ _ trivial (fun hHeld => ?_)
        clear hK K
        refine tkr 6 fun K hK => ?_
        refine step_appU rfl (.tmp 43) (.tmp 47) rfl B4 A2 n2 c2 acc (by rfl) al5 (w5.heap.size + 1) (some ⟨w5.heap.size, 0, none⟩) 1 1 [(V : Int)] (by rfl) (NS.one w5 hvw rfl) (by have := HA.out; simp; omega) HSZ5.out ?_; intro A6 n6 c6 w6 o6 b6 g6 hat; have hQ6 := hQ5a.grown g6 (by intro e; first | exact own_blk_ne al5.2.1 hQ5a (by decide) e | exact own_blk_ne al5.2.1 hQ5a (by decide) e.symm); have f1 := hQ6.frozen 1; have q16 := hQ6.cell 1
        refine hK.out _ _ ?_ (fun hHeld => ?_)
        ·try dsimp only
         first | done | trivial
        clear hK K
        refine tkh 7 (h := ?_)
        try simp only [Act.put, q1, q2, q3, q4, q5, q6]
        refine tkr 8 fun K hK => ?_
        go_simp
        go_wp2_with (fail)
        refine hK.out _ _ ?_ (fun hHeld => ?_)
        ·try dsimp only
         first | done | trivial
        clear hK K
        refine wpAnyH_done (by kernel_rfl) ?_ _
        refine HKK.out _ _ ?_
        have r6 := r5a.grown g6 (fun k hk => by
         have h1 := (al5.2.1.lt k hk).1
         exact ⟨by omega, by omega⟩)
        have hQ7 := hQ6.set_ 1 (.slice A6 n6 c6)
        simp only [List.setIfInBounds_toArray, List.set_cons_succ, List.set_cons_zero] at hQ7
        have gq := only_setCell (World.grownBy.refl w6 (some q)) (p := ⟨q, 1, none⟩) (.inl rfl) (.slice A6 n6 c6)
        have o7 := o6.at_g hQ6 (by decide) gq
        have r7 := r6.setCell (p := ⟨q, 1, none⟩) (by show Bd ≤ q; omega) (by show q ≠ g; omega) (.slice A6 n6 c6)
        have b57 : Below wo.heap.size w5 (w6.setCell ⟨q, 1, none⟩ (.slice A6 n6 c6)) := (((Below.refl wo.heap.size w5).alloc (by omega) (.cells #[.int .u32 (V : Int)] 22)).trans (b6.mono (by omega))).setCell (p := ⟨q, 1, none⟩) (by show wo.heap.size ≤ q; omega) (.slice A6 n6 c6)
        have g07 := grown_below g05 b57
        have z7 : B4 ≤ (w6.setCell ⟨q, 1, none⟩ (.slice A6 n6 c6)).heap.size := by have h1 := b6.size; have h2 := HSZ5.out; simp [World.setCell] at h1 h2 ⊢; omega
        clear q16 f1 q15 q15a q1d
        go_wp2_with fail
        go_roundw
        case rel => exact ⟨m - 1, acc ++ [(V : Int)], A6, n6, c6, t4, s4, rfl, by omega, r7, hQ7, o7, g07, z7, HIN⟩
        case measure => have := HMP.out; simp [intOf]; omega
theorem one_info : (Tryz.prog.info? 222).map (·.size) = some 4 := by kernel_rfl
theorem one_ret {fn : Func} {p u v : Tmp} (h : fn.results = #[.cell p 222, .tmp u, .tmp v]) (tmps : Array Value) (w : World) (g : Nat) (x0 x1 x2 x3 y z : Value)
  (hp : tmps.getD p undef = .pointer (some ⟨g, 0, none⟩)) (hu : tmps.getD u undef = y) (hv : tmps.getD v undef = z) (hB : Blk w g 222 #[x0, x1, x2, x3]) :
  (results fn tmps).run Tryz.prog w = .ok (.tuple #[.agg #[x0, x1, x2, x3], y, z]) w := by
 have hp' : tmps[p]?.getD undef = .pointer (some ⟨g, 0, none⟩) := by simpa using hp
 have hu' : tmps[u]?.getD undef = y := by simpa using hu
 have hv' : tmps[v]?.getD undef = z := by simpa using hv
 have := run_loadVar_row (P := Tryz.prog) w g 222 222 #[x0, x1, x2, x3] (0, 0) _ hB Tryz.underlying222 rfl one_info
 simp [results, h, hp', hu', hv', asAddr, this]
set_option maxRecDepth 100000 in
theorem and16_fin : ∀ V : Fin 256, V.val &&& 16 = V.val / 16 % 2 * 16 := by decide
theorem and16 {V : Nat} (h : V < 256) : bits .and .i64 (V : Int) 16 = ((V / 16 % 2 * 16 : Nat) : Int) := by
 have := i64_and_nat V 16 (by omega) (by omega)
 rw [show ((16 : Nat) : Int) = 16 from rfl] at this
 rw [this, and16_fin ⟨V, h⟩]
theorem splitA_eq {b t1 t2 t3 t4 v : List UInt8} {s1 s2 s3 s4 : Bool} {V1 V2 V3 z : Nat} (E1 : numL (tkOut b false (1 : Nat)) = V1 ∧ tkLeft b false (1 : Nat) = t1 ∧ tkShort b false (1 : Nat) = s1) (E2 : numL (tkOut t1 s1 (1 : Nat)) = V2 ∧ tkLeft t1 s1 (1 : Nat) = t2 ∧ tkShort t1 s1 (1 : Nat) = s2) (hz : szV V1 = z) (E3 : numL (tkOut t2 s2 z) = V3 ∧ tkLeft t2 s2 z = t3 ∧ tkShort t2 s2 z = s3) (E4 : tkOut t3 s3 V3 = v ∧ tkLeft t3 s3 V3 = t4 ∧ tkShort t3 s3 V3 = s4) :
  splitA b = if s4 = true then none else some (⟨V1, V2, b.take (b.length - t4.length), v⟩, b.drop (b.length - t4.length)) := by
 obtain ⟨rfl, rfl, rfl⟩ := E1
 obtain ⟨rfl, rfl, rfl⟩ := E2
 subst hz
 obtain ⟨rfl, rfl, rfl⟩ := E3
 obtain ⟨rfl, rfl, rfl⟩ := E4
 rfl
/-- What a split hands back. -/
def RetSp (w : World) (A : Option Addr) (r : Option (One × List UInt8)) (e : Ending) (w' : World) : Prop := Below w.heap.size w w' ∧ match r with
 | none => e = .returned (.tuple #[.agg #[.int .i64 0, .int .i64 0, .slice none 0 0, .slice none 0 0], .slice none 0 0, .bool false])
 | some q => ∃ (A1 : Option Addr) (n1 c1 : Nat) (A2 : Option Addr) (n2 c2 : Nat) (A3 : Option Addr) (n3 c3 : Nat), e = .returned (.tuple #[.agg #[.int .i64 q.1.fl, .int .i64 q.1.kind, .slice A1 n1 c1, .slice A2 n2 c2], .slice A3 n3 c3, .bool true]) ∧ BS w' w.heap.size A1 n1 q.1.all ∧ OB w' 5 w.heap.size A2 n2 c2 q.1.val ∧ BS w' w.heap.size A3 n3 q.2 ∧ n3 ≤ c3 ∧ (0 ≤ q.1.fl ∧ q.1.fl ≤ 255) ∧ (0 ≤ q.1.kind ∧ q.1.kind ≤ 255) ∧ A1 = A ∧ (∀ ad a0, A3 = some ad → A = some a0 → ad.block = a0.block) ∧ n1 ≤ c1
set_option maxHeartbeats 8000000 in
set_option maxRecDepth 100000 in
theorem attSplit (A : Option Addr) (n c : Nat) (b : List UInt8) (w : World) (h : BS w w.heap.size A n b) (hn : n ≤ 140737488355320) (hc : n ≤ c) :
  Calls Tryz.prog 146 #[.slice A n c] w (RetSp w A (splitA b)) := by
 have hl : b.length ≤ 140737488355320 := by rw [← h.len]; exact hn
 have HLN := Lib.hid h.len
 obtain ⟨W, hW, hR, b0⟩ := box1c w #[.int .i64 0, .int .i64 0, .slice none 0 0, .slice none 0 0] 222
 have hRl := hR.lt
 have hWz := b0.size
 have hWz0 := b0.size
 obtain ⟨q, hq⟩ : ∃ q, w.heap.size = q := ⟨_, rfl⟩
 have HQ := Lib.hid hq
 go_enter Tryz.func146, Tryz.ntmps146
 go_upto_region 1 with fail
 try rw [hW]
 rw [hq] at hR hRl hWz
 try rw [hq]
 have h0 := h.call b0
 have HH := Lib.hid h
 clear hW hq h
 go_wp2_with fail
 refine (rbNew A n c b _ h0 hn).mono ?_
 rintro _ w1 ⟨g, rfl, hg, r1, b1⟩
 have b01 := btr b0 b1 b0.size
 have hR_1 := hR.below b1 hR.lt
 have hgl := r1.lt
 have hz1 := b01.size
 obtain ⟨V1, t1, s1, E1⟩ : ∃ v1 l1 s1, numL (tkOut b false (1 : Nat)) = v1 ∧ tkLeft b false (1 : Nat) = l1 ∧ tkShort b false (1 : Nat) = s1 := ⟨_, _, _, rfl, rfl, rfl⟩
 obtain ⟨V2, t2, s2, E2⟩ : ∃ v1 l1' s1', numL (tkOut t1 s1 (1 : Nat)) = v1 ∧ tkLeft t1 s1 (1 : Nat) = l1' ∧ tkShort t1 s1 (1 : Nat) = s1' := ⟨_, _, _, rfl, rfl, rfl⟩
 obtain ⟨z, hz⟩ : ∃ z, szV V1 = z := ⟨_, rfl⟩
 obtain ⟨V3, t3, s3, E3⟩ : ∃ v1 l1' s1', numL (tkOut t2 s2 z) = v1 ∧ tkLeft t2 s2 z = l1' ∧ tkShort t2 s2 z = s1' := ⟨_, _, _, rfl, rfl, rfl⟩
 obtain ⟨v, t4, s4, E4⟩ : ∃ v1 l1' s1', tkOut t3 s3 V3 = v1 ∧ tkLeft t3 s3 V3 = l1' ∧ tkShort t3 s3 V3 = s1' := ⟨_, _, _, rfl, rfl, rfl⟩
 have HS := Lib.hid (splitA_eq E1 E2 hz E3 E4)
 have L1 : t1.length ≤ b.length := by rw [← E1.2.1]; exact tkLeft_len _ _ _
 have L2 : t2.length ≤ t1.length := by rw [← E2.2.1]; exact tkLeft_len _ _ _
 have L3 : t3.length ≤ t2.length := by rw [← E3.2.1]; exact tkLeft_len _ _ _
 have L4 : t4.length ≤ t3.length := by rw [← E4.2.1]; exact tkLeft_len _ _ _
 have hV1 : V1 < 256 := by rw [← E1.1]; exact tkOut_num b false 1
 have hV2 : V2 < 256 := by rw [← E2.1]; exact tkOut_num t1 s1 1
 have H1 := Lib.hid E1
 clear E1
 have H2 := Lib.hid E2
 clear E2
 have H3 := Lib.hid E3
 clear E3
 have H4 := Lib.hid E4
 clear E4
 have HZ := Lib.hid hz
 clear hz
 go_wp2_with fail
 refine (rbByte g b false _ r1 hl).mono ?_
 rw [H1.out.1, H1.out.2.1, H1.out.2.2]
 rintro _ w2 ⟨rfl, r2, g2⟩
 have z2 := g2.size
 have b02 := at_below b01 g2 b01.size (by omega)
 have hR_2 := hR_1.grown g2 (by intro e; injection e with e; omega)
 clear hR_1
 go_wp2_with fail
 refine (rbByte g t1 s1 _ r2 (by omega)).mono ?_
 rw [H2.out.1, H2.out.2.1, H2.out.2.2]
 rintro _ w3 ⟨rfl, r3, g3⟩
 have z3 := g3.size
 have b03 := at_below b02 g3 b02.size (by omega)
 have hR_3 := hR_2.grown g3 (by intro e; injection e with e; omega)
 clear hR_2
 go_upto_region 3 with fail
 obtain ⟨w4, hw4, hO, b4⟩ := box1c w3 #[.int .i64 V1, .int .i64 V2, .slice none 0 0, .slice none 0 0] 222
 try rw [hw4]
 have hOl := hO.lt
 obtain ⟨k, hk⟩ : ∃ k, w3.heap.size = k := ⟨_, rfl⟩
 have r4 := r3.below b4 (by omega) (by omega)
 rw [hk] at hO hOl z3
 have b4z := b4.size
 rw [hk] at b4z
 have b4 := b4
 clear hw4
 have b04 := btr b03 b4 b03.size
 have hR_4 := hR_3.below b4 hR_3.lt
 clear hR_3
 try rw [hk]
 clear hk
 have c_hO0 := hO.cell 0
 have e16 := and16 hV1
 by_cases h16 : V1 / 16 % 2 = 1
 ·have hz2 : z = 2 := by rw [← HZ.out]; unfold szV; rw [if_pos h16]
  subst hz2
  rw [h16] at e16
  go_wp2_with fail
  refine (rbU16 g t2 s2 _ r4 (by omega)).mono ?_
  rw [H3.out.1, H3.out.2.1, H3.out.2.2]
  rintro _ w5 ⟨rfl, r5, g5⟩
  clear c_hO0
  have z5 := g5.size
  have b05 := at_below b04 g5 b04.size (by omega)
  have hR_5 := hR_4.grown g5 (by intro e; injection e with e; omega)
  clear hR_4
  have hO_5 := hO.grown g5 (by intro e; injection e with e; omega)
  have c_hO0 := hO_5.cell 0
  clear c_hO0
  have c_hO0 := hO_5.cell 0
  have f_hO0 := hO_5.frozen 0
  have c_hO1 := hO_5.cell 1
  have f_hO1 := hO_5.frozen 1
  have c_hO2 := hO_5.cell 2
  have f_hO2 := hO_5.frozen 2
  have c_hO3 := hO_5.cell 3
  have f_hO3 := hO_5.frozen 3
  go_wp2_with fail
  refine (rbTake g t3 s3 (V3 : Int) _ r5 (by omega)).mono ?_
  rintro _ w6 ⟨A6, n6, c6, rfl, o6, r6, g6⟩
  clear c_hO0 f_hO0 c_hO1 f_hO1 c_hO2 f_hO2 c_hO3 f_hO3
  have z6 := g6.size
  have b06 := at_below b05 g6 b05.size (by omega)
  have hR_6 := hR_5.grown g6 (by intro e; injection e with e; omega)
  clear hR_5
  have hO_6 := hO_5.grown g6 (by intro e; injection e with e; omega)
  clear hO_5
  have c_hO0 := hO_6.cell 0
  have f_hO0 := hO_6.frozen 0
  have c_hO1 := hO_6.cell 1
  have f_hO1 := hO_6.frozen 1
  have c_hO2 := hO_6.cell 2
  have f_hO2 := hO_6.frozen 2
  have c_hO3 := hO_6.cell 3
  have f_hO3 := hO_6.frozen 3
  rw [H4.out.1] at o6
  rw [H4.out.2.1, H4.out.2.2] at r6
  go_upto_region 8 with fail
  obtain ⟨w7, hw7⟩ : ∃ x, w6.setCell ⟨k, 3, none⟩ (.slice A6 n6 c6) = x := ⟨_, rfl⟩
  have r7 := r6.setCell (p := ⟨k, 3, none⟩) (by show _ ≤ k; omega) (by show k ≠ g; omega) (.slice A6 n6 c6)
  have o7 := o6.grownAt (only_setCell (World.grownBy.refl w6 (some k)) (p := ⟨k, 3, none⟩) (.inl rfl) (.slice A6 n6 c6)) (by omega)
  have hO7 := hO_6.set_ 3 (.slice A6 n6 c6)
  simp only [List.setIfInBounds_toArray, List.set_cons_succ, List.set_cons_zero] at hO7
  have hR7 := hR_6.far (p := ⟨k, 3, none⟩) (by show q ≠ k; omega) (.slice A6 n6 c6)
  have b07 := b06.setCell (p := ⟨k, 3, none⟩) (by show w.heap.size ≤ k; have := HQ.out; omega) (.slice A6 n6 c6)
  rw [hw7] at r7 o7 hO7 hR7 b07
  rw [hw7]
  clear hw7
  go_wp2_with fail
  refine (rbErr g t4 s4 _ r7).mono ?_
  rintro _ _ ⟨rfl, rfl⟩
  cases s4
  case true =>
   have HF := Lib.hid (show splitA b = none by rw [HS.out]; rfl)
   have x0 := hR7.cell 0
   have x1 := hR7.cell 1
   have x2 := hR7.cell 2
   have x3 := hR7.cell 3
   have y0 := hR7.frozen 0
   have y1 := hR7.frozen 1
   have y2 := hR7.frozen 2
   have y3 := hR7.frozen 3
   go_wp2_with fail
   have hqle : w.heap.size ≤ q := Nat.le_of_eq HQ.out
   have bE := (((b07.setCell (p := ⟨q, 0, none⟩) hqle (.int .i64 0)).setCell (p := ⟨q, 1, none⟩) hqle (.int .i64 0)).setCell (p := ⟨q, 2, none⟩) hqle (.slice none 0 0)).setCell (p := ⟨q, 3, none⟩) hqle (.slice none 0 0)
   have hE := (((hR7.set_ 0 (.int .i64 0)).set_ 1 (.int .i64 0)).set_ 2 (.slice none 0 0)).set_ 3 (.slice none 0 0)
   simp only [List.setIfInBounds_toArray, List.set_cons_succ, List.set_cons_zero] at hE
   exact bodyPost_ret (one_ret rfl _ _ q _ _ _ _ _ _ rfl rfl rfl hE) rfl ⟨bE, by rw [HF.out]; rfl⟩
  obtain ⟨M, hM⟩ : ∃ M, n - t4.length = M := ⟨_, rfl⟩
  have HM := Lib.hid (show splitA b = some (⟨V1, V2, b.take M, v⟩, b.drop M) by rw [HS.out, ← hM, ← HLN.out]; rfl)
  have HLE := Lib.hid (show t4.length ≤ n by have := HLN.out; omega)
  have hMn : M ≤ n := by omega
  have hMc : M ≤ c := by omega
  have hMni : (M : Int) ≤ (n : Int) := by omega
  have wM : IntKind.i64.wrap ((n : Int) - (t4.length : Int)) = (M : Int) := by rw [show (n : Int) - (t4.length : Int) = (M : Int) by have := HLE.out; omega]; exact IntWalk.i64_in _ ⟨by omega, by omega⟩
  have HLF := Lib.hid (show ∀ w', RB w1.heap.size w' g t4 false → Calls Tryz.prog 93 #[.pointer (some ⟨g, 0, none⟩)] w' fun en w'' => en = .returned (.int .i64 ((t4.length : Nat) : Int)) ∧ w' = w'' from fun w' h => rbLeft g t4 false w' h)
  clear hM
  have e2 := hO7.cell 2
  have f2 := hO7.frozen 2
  go_wp2_with fail
  refine (HLF.out _ r7).mono ?_
  rintro _ _ ⟨rfl, rfl⟩
  go_upto_region 11 with fail
  all_goals
   obtain ⟨w8, hw8⟩ : ∃ x, w7.setCell ⟨k, 2, none⟩ (.slice A M c) = x := ⟨_, rfl⟩
   have r8 := r7.setCell (p := ⟨k, 2, none⟩) (by show _ ≤ k; omega) (by show k ≠ g; omega) (.slice A M c)
   have o8 := o7.grownAt (only_setCell (World.grownBy.refl w7 (some k)) (p := ⟨k, 2, none⟩) (.inl rfl) (.slice A M c)) (by omega)
   have hO8 := hO7.set_ 2 (.slice A M c)
   simp only [List.setIfInBounds_toArray, List.set_cons_succ, List.set_cons_zero] at hO8
   have hR8 := hR7.far (p := ⟨k, 2, none⟩) (by show q ≠ k; omega) (.slice A M c)
   have b08 := b07.setCell (p := ⟨k, 2, none⟩) (by show w.heap.size ≤ k; have := HQ.out; omega) (.slice A M c)
   rw [hw8] at r8 o8 hO8 hR8 b08
   rw [hw8]
   clear hw8 e2 f2
   have hOd : Blk w8.drew k 222 #[.int .i64 V1, .int .i64 V2, .slice A M c, .slice A6 n6 c6] := hO8
   have hRd : Blk w8.drew q 222 #[.int .i64 0, .int .i64 0, .slice none 0 0, .slice none 0 0] := hR8
   have rd : RB w1.heap.size w8.drew g t4 false := r8
   have od : OB w8.drew 5 w5.heap.size A6 n6 c6 v := o8
   have bd : Below w.heap.size w w8.drew := b08.drew
   obtain ⟨wd, hwd⟩ : ∃ x, w8.drew = x := ⟨_, rfl⟩
   rw [hwd] at hOd hRd rd od bd
   have HWD := Lib.hid hwd
   clear hwd
   have d0 := hOd.cell 0
   have d1 := hOd.cell 1
   have d2 := hOd.cell 2
   have d3 := hOd.cell 3
   have x0 := hRd.cell 0
   have x1 := hRd.cell 1
   have x2 := hRd.cell 2
   have x3 := hRd.cell 3
   have y0 := hRd.frozen 0
   have y1 := hRd.frozen 1
   have y2 := hRd.frozen 2
   have y3 := hRd.frozen 3
   have HEND := Lib.hid (show ∀ (A3 : Option Addr) (n3 c3 : Nat), A3 = (if c = M then A else A.map (·.add M)) → n3 = n - M → c3 = c - M → RetSp w A (splitA b) (.returned (.tuple #[.agg #[.int .i64 V1, .int .i64 V2, .slice A M c, .slice A6 n6 c6], .slice A3 n3 c3, .bool true])) ((((wd.setCell ⟨q, 0, none⟩ (.int .i64 V1)).setCell ⟨q, 1, none⟩ (.int .i64 V2)).setCell ⟨q, 2, none⟩ (.slice A M c)).setCell ⟨q, 3, none⟩ (.slice A6 n6 c6)) from by
    rintro A3 n3 c3 rfl rfl rfl
    have hqle : w.heap.size ≤ q := Nat.le_of_eq HQ.out
    have bE := (((bd.setCell (p := ⟨q, 0, none⟩) hqle (.int .i64 V1)).setCell (p := ⟨q, 1, none⟩) hqle (.int .i64 V2)).setCell (p := ⟨q, 2, none⟩) hqle (.slice A M c)).setCell (p := ⟨q, 3, none⟩) hqle (.slice A6 n6 c6)
    have gE := only_setCell (only_setCell (only_setCell (only_setCell (World.grownBy.refl wd (some q)) (p := ⟨q, 0, none⟩) (.inl rfl) (.int .i64 V1)) (p := ⟨q, 1, none⟩) (.inl rfl) (.int .i64 V2)) (p := ⟨q, 2, none⟩) (.inl rfl) (.slice A M c)) (p := ⟨q, 3, none⟩) (.inl rfl) (.slice A6 n6 c6)
    have hE := HH.out.below bE
    refine ⟨bE, ?_⟩
    rw [HM.out]
    refine ⟨A, M, c, A6, n6, c6, _, _, _, rfl, hE.take_ hMn, (od.grownAt gE (by omega)).low (by have := HQ.out; omega), hE.drop_ hMn hc, by omega, ⟨by show (0 : Int) ≤ (V1 : Int); omega, by show (V1 : Int) ≤ 255; omega⟩, ⟨by show (0 : Int) ≤ (V2 : Int); omega, by show (V2 : Int) ≤ 255; omega⟩, rfl, fun ad a0 e e0 => by
       subst e0
       split at e
       ·injection e with e; rw [e]
       ·simp only [Option.map_some] at e
        injection e with e
        rw [← e, block_of_add], hMc⟩)
   have HENDB := Lib.hid (show Blk ((((wd.setCell ⟨q, 0, none⟩ (.int .i64 V1)).setCell ⟨q, 1, none⟩ (.int .i64 V2)).setCell ⟨q, 2, none⟩ (.slice A M c)).setCell ⟨q, 3, none⟩ (.slice A6 n6 c6)) q 222 #[.int .i64 V1, .int .i64 V2, .slice A M c, .slice A6 n6 c6] from by
    have hE := (((hRd.set_ 0 (.int .i64 V1)).set_ 1 (.int .i64 V2)).set_ 2 (.slice A M c)).set_ 3 (.slice A6 n6 c6)
    simp only [List.setIfInBounds_toArray, List.set_cons_succ, List.set_cons_zero] at hE
    exact hE)
   rename_i hkk
   have HKK := Lib.hid hkk
   have RD := Lib.hid rd
   try clear rd
   try clear od
   try clear bd
   try clear hOd
   try clear hRd
   try clear r8
   try clear o8
   try clear hO8
   try clear hR8
   try clear b08
   try clear c_hO0
   try clear c_hO1
   try clear c_hO2
   try clear c_hO3
   try clear f_hO0
   try clear f_hO1
   try clear f_hO2
   try clear f_hO3
   try clear hO_7
   try clear hR_7
   try clear r7
   try clear o7
   try clear hO7
   try clear hR7
   try clear b07
   try clear z7
   try clear g7
   try clear b7
   try clear hO_6
   try clear hR_6
   try clear r6
   try clear o6
   try clear hO6
   try clear hR6
   try clear b06
   try clear z6
   try clear g6
   try clear b6
   try clear hO_5
   try clear hR_5
   try clear r5
   try clear o5
   try clear hO5
   try clear hR5
   try clear b05
   try clear z5
   try clear g5
   try clear b5
   try clear hO_4
   try clear hR_4
   try clear r4
   try clear o4
   try clear hO4
   try clear hR4
   try clear b04
   try clear z4
   try clear g4
   try clear b4
   try clear hO_3
   try clear hR_3
   try clear r3
   try clear o3
   try clear hO3
   try clear hR3
   try clear b03
   try clear z3
   try clear g3
   try clear b3
   try clear hO_2
   try clear hR_2
   try clear r2
   try clear o2
   try clear hO2
   try clear hR2
   try clear b02
   try clear z2
   try clear g2
   try clear b2
   try clear hO_1
   try clear hR_1
   try clear r1
   try clear o1
   try clear hO1
   try clear hR1
   try clear b01
   try clear z1
   try clear g1
   try clear b1
   try clear hO
   try clear hR
   try clear hOl
   try clear hRl
   try clear hgl
   try clear hz1
   try clear hWz
   try clear hWz0
   try clear h0
   try clear b0
   try clear b4z
   try clear e16
   try clear h16
   try clear L4
   try clear L3
   try clear L2
   try clear L1
   try clear hV1
   try clear hV2
   try clear hl
   try clear hn
   try clear hg
   by_cases hcM : c = M
   ·subst hcM
    refine wp_region_held_drew (S := (fun _ => True)) (by kernel_rfl) ?_ (fun hHeld => ?_)
    ·first | done | trivial
    rw [HWD.out]
    refine tkh 1 (h := ?_)
    try simp only [Act.put, q1, q2, q3, q4, q5, q6]
    refine tkh 2 (h := ?_)
    try simp only [Act.put, q1, q2, q3, q4, q5, q6]
    refine tkh 4 (h := ?_)
    try simp only [Act.put, q1, q2, q3, q4, q5, q6]
    refine tkh 3 (h := ?_)
    try simp only [Act.put, q1, q2, q3, q4, q5, q6]
    refine wpAnyH_ready (rs := [0, 5]) (by kernel_rfl) (by simp) ?_
    refine AllReadyH.cons rfl (fun K hK => ?_) (AllReadyH.cons rfl (fun K hK => ?_) AllReadyH.nil)
    ·skip
     go_simp
     go_wp2_with (fail)
     refine hK.out _ _ trivial (fun hHeld => ?_)
     clear hK K
     refine tkr 5 fun K hK => ?_
     go_simp
     go_wp2_with ((go_at_call 93; refine (HLF.out _ RD.out).mono ?_; rintro _ _ ⟨rfl, rfl⟩))
     refine hK.out _ _ trivial (fun hHeld => ?_)
     clear hK K
     refine tkh 6 (h := ?_)
     try simp only [Act.put, q1, q2, q3, q4, q5, q6]
     refine tkh 7 (h := ?_)
     try simp only [Act.put, q1, q2, q3, q4, q5, q6]
     refine tkr 8 fun K hK => ?_
     go_simp
     go_wp2_with (fail)
     refine hK.out _ _ trivial (fun hHeld => ?_)
     clear hK K
     refine tkr 9 fun K hK => ?_
     go_simp
     go_wp2_with (fail)
     refine hK.out _ _ trivial (fun hHeld => ?_)
     clear hK K
     refine tkr 10 fun K hK => ?_
     go_simp
     go_wp2_with (fail)
     refine hK.out _ _ trivial (fun hHeld => ?_)
     clear hK K
     refine wpAnyH_done (by kernel_rfl) ?_ _
     refine HKK.out _ _ ?_
     go_wp2_with fail
     refine bodyPost_ret (one_ret rfl _ _ q _ _ _ _ (.slice _ _ _) (.bool true) rfl rfl rfl HENDB.out) rfl (HEND.out _ _ _ ?_ ?_ ?_)
     ·first | (simp; done) | (rw [if_neg hcM]; done) | (trace_state; sorry)
     ·first | rfl | omega
     ·first | rfl | omega
    ·skip
     go_simp
     go_wp2_with ((go_at_call 93; refine (HLF.out _ RD.out).mono ?_; rintro _ _ ⟨rfl, rfl⟩))
     refine hK.out _ _ trivial (fun hHeld => ?_)
     clear hK K
     refine tkh 6 (h := ?_)
     try simp only [Act.put, q1, q2, q3, q4, q5, q6]
     refine tkh 7 (h := ?_)
     try simp only [Act.put, q1, q2, q3, q4, q5, q6]
     refine tkr 0 fun K hK => ?_
     go_simp
     go_wp2_with (fail)
     refine hK.out _ _ trivial (fun hHeld => ?_)
     clear hK K
     refine tkr 8 fun K hK => ?_
     go_simp
     go_wp2_with (fail)
     refine hK.out _ _ trivial (fun hHeld => ?_)
     clear hK K
     refine tkr 9 fun K hK => ?_
     go_simp
     go_wp2_with (fail)
     refine hK.out _ _ trivial (fun hHeld => ?_)
     clear hK K
     refine tkr 10 fun K hK => ?_
     go_simp
     go_wp2_with (fail)
     refine hK.out _ _ trivial (fun hHeld => ?_)
     clear hK K
     refine wpAnyH_done (by kernel_rfl) ?_ _
     refine HKK.out _ _ ?_
     go_wp2_with fail
     refine bodyPost_ret (one_ret rfl _ _ q _ _ _ _ (.slice _ _ _) (.bool true) rfl rfl rfl HENDB.out) rfl (HEND.out _ _ _ ?_ ?_ ?_)
     ·first | (simp; done) | (rw [if_neg hcM]; done) | (trace_state; sorry)
     ·first | rfl | omega
     ·first | rfl | omega
   ·refine wp_region_held_drew (S := (fun _ => True)) (by kernel_rfl) ?_ (fun hHeld => ?_)
    ·first | done | trivial
    rw [HWD.out]
    refine tkh 1 (h := ?_)
    try simp only [Act.put, q1, q2, q3, q4, q5, q6]
    refine tkh 2 (h := ?_)
    try simp only [Act.put, q1, q2, q3, q4, q5, q6]
    refine tkh 4 (h := ?_)
    try simp only [Act.put, q1, q2, q3, q4, q5, q6]
    refine tkh 3 (h := ?_)
    try simp only [Act.put, q1, q2, q3, q4, q5, q6]
    refine wpAnyH_ready (rs := [0, 5]) (by kernel_rfl) (by simp) ?_
    refine AllReadyH.cons rfl (fun K hK => ?_) (AllReadyH.cons rfl (fun K hK => ?_) AllReadyH.nil)
    ·skip
     go_simp
     go_wp2_with (fail)
     refine hK.out _ _ trivial (fun hHeld => ?_)
     clear hK K
     refine tkr 5 fun K hK => ?_
     go_simp
     go_wp2_with ((go_at_call 93; refine (HLF.out _ RD.out).mono ?_; rintro _ _ ⟨rfl, rfl⟩))
     refine hK.out _ _ trivial (fun hHeld => ?_)
     clear hK K
     refine tkh 6 (h := ?_)
     try simp only [Act.put, q1, q2, q3, q4, q5, q6]
     refine tkh 7 (h := ?_)
     try simp only [Act.put, q1, q2, q3, q4, q5, q6]
     refine tkr 8 fun K hK => ?_
     go_simp
     go_wp2_with (fail)
     refine hK.out _ _ trivial (fun hHeld => ?_)
     clear hK K
     refine tkr 9 fun K hK => ?_
     go_simp
     go_wp2_with (fail)
     refine hK.out _ _ trivial (fun hHeld => ?_)
     clear hK K
     refine tkr 10 fun K hK => ?_
     go_simp
     go_wp2_with (fail)
     refine hK.out _ _ trivial (fun hHeld => ?_)
     clear hK K
     refine wpAnyH_done (by kernel_rfl) ?_ _
     refine HKK.out _ _ ?_
     go_wp2_with fail
     refine bodyPost_ret (one_ret rfl _ _ q _ _ _ _ (.slice _ _ _) (.bool true) rfl rfl rfl HENDB.out) rfl (HEND.out _ _ _ ?_ ?_ ?_)
     ·first | (simp; done) | (rw [if_neg hcM]; done) | (trace_state; sorry)
     ·first | rfl | omega
     ·first | rfl | omega
    ·skip
     go_simp
     go_wp2_with ((go_at_call 93; refine (HLF.out _ RD.out).mono ?_; rintro _ _ ⟨rfl, rfl⟩))
     refine hK.out _ _ trivial (fun hHeld => ?_)
     clear hK K
     refine tkh 6 (h := ?_)
     try simp only [Act.put, q1, q2, q3, q4, q5, q6]
     refine tkh 7 (h := ?_)
     try simp only [Act.put, q1, q2, q3, q4, q5, q6]
     refine tkr 0 fun K hK => ?_
     go_simp
     go_wp2_with (fail)
     refine hK.out _ _ trivial (fun hHeld => ?_)
     clear hK K
     refine tkr 8 fun K hK => ?_
     go_simp
     go_wp2_with (fail)
     refine hK.out _ _ trivial (fun hHeld => ?_)
     clear hK K
     refine tkr 9 fun K hK => ?_
     go_simp
     go_wp2_with (fail)
     refine hK.out _ _ trivial (fun hHeld => ?_)
     clear hK K
     refine tkr 10 fun K hK => ?_
     go_simp
     go_wp2_with (fail)
     refine hK.out _ _ trivial (fun hHeld => ?_)
     clear hK K
     refine wpAnyH_done (by kernel_rfl) ?_ _
     refine HKK.out _ _ ?_
     go_wp2_with fail
     refine bodyPost_ret (one_ret rfl _ _ q _ _ _ _ (.slice _ _ _) (.bool true) rfl rfl rfl HENDB.out) rfl (HEND.out _ _ _ ?_ ?_ ?_)
     ·first | (simp; done) | (rw [if_neg hcM]; done) | (trace_state; sorry)
     ·first | rfl | omega
     ·first | rfl | omega
 ·have hz2 : z = 1 := by rw [← HZ.out]; unfold szV; rw [if_neg h16]
  subst hz2
  rw [show V1 / 16 % 2 = 0 by omega] at e16
  go_wp2_with fail
  refine (rbByte g t2 s2 _ r4 (by omega)).mono ?_
  rw [H3.out.1, H3.out.2.1, H3.out.2.2]
  rintro _ w5 ⟨rfl, r5, g5⟩
  clear c_hO0
  have z5 := g5.size
  have b05 := at_below b04 g5 b04.size (by omega)
  have hR_5 := hR_4.grown g5 (by intro e; injection e with e; omega)
  clear hR_4
  have hO_5 := hO.grown g5 (by intro e; injection e with e; omega)
  have c_hO0 := hO_5.cell 0
  clear c_hO0
  have c_hO0 := hO_5.cell 0
  have f_hO0 := hO_5.frozen 0
  have c_hO1 := hO_5.cell 1
  have f_hO1 := hO_5.frozen 1
  have c_hO2 := hO_5.cell 2
  have f_hO2 := hO_5.frozen 2
  have c_hO3 := hO_5.cell 3
  have f_hO3 := hO_5.frozen 3
  go_wp2_with fail
  refine (rbTake g t3 s3 (V3 : Int) _ r5 (by omega)).mono ?_
  rintro _ w6 ⟨A6, n6, c6, rfl, o6, r6, g6⟩
  clear c_hO0 f_hO0 c_hO1 f_hO1 c_hO2 f_hO2 c_hO3 f_hO3
  have z6 := g6.size
  have b06 := at_below b05 g6 b05.size (by omega)
  have hR_6 := hR_5.grown g6 (by intro e; injection e with e; omega)
  clear hR_5
  have hO_6 := hO_5.grown g6 (by intro e; injection e with e; omega)
  clear hO_5
  have c_hO0 := hO_6.cell 0
  have f_hO0 := hO_6.frozen 0
  have c_hO1 := hO_6.cell 1
  have f_hO1 := hO_6.frozen 1
  have c_hO2 := hO_6.cell 2
  have f_hO2 := hO_6.frozen 2
  have c_hO3 := hO_6.cell 3
  have f_hO3 := hO_6.frozen 3
  rw [H4.out.1] at o6
  rw [H4.out.2.1, H4.out.2.2] at r6
  go_upto_region 8 with fail
  obtain ⟨w7, hw7⟩ : ∃ x, w6.setCell ⟨k, 3, none⟩ (.slice A6 n6 c6) = x := ⟨_, rfl⟩
  have r7 := r6.setCell (p := ⟨k, 3, none⟩) (by show _ ≤ k; omega) (by show k ≠ g; omega) (.slice A6 n6 c6)
  have o7 := o6.grownAt (only_setCell (World.grownBy.refl w6 (some k)) (p := ⟨k, 3, none⟩) (.inl rfl) (.slice A6 n6 c6)) (by omega)
  have hO7 := hO_6.set_ 3 (.slice A6 n6 c6)
  simp only [List.setIfInBounds_toArray, List.set_cons_succ, List.set_cons_zero] at hO7
  have hR7 := hR_6.far (p := ⟨k, 3, none⟩) (by show q ≠ k; omega) (.slice A6 n6 c6)
  have b07 := b06.setCell (p := ⟨k, 3, none⟩) (by show w.heap.size ≤ k; have := HQ.out; omega) (.slice A6 n6 c6)
  rw [hw7] at r7 o7 hO7 hR7 b07
  rw [hw7]
  clear hw7
  go_wp2_with fail
  refine (rbErr g t4 s4 _ r7).mono ?_
  rintro _ _ ⟨rfl, rfl⟩
  cases s4
  case true =>
   have HF := Lib.hid (show splitA b = none by rw [HS.out]; rfl)
   have x0 := hR7.cell 0
   have x1 := hR7.cell 1
   have x2 := hR7.cell 2
   have x3 := hR7.cell 3
   have y0 := hR7.frozen 0
   have y1 := hR7.frozen 1
   have y2 := hR7.frozen 2
   have y3 := hR7.frozen 3
   go_wp2_with fail
   have hqle : w.heap.size ≤ q := Nat.le_of_eq HQ.out
   have bE := (((b07.setCell (p := ⟨q, 0, none⟩) hqle (.int .i64 0)).setCell (p := ⟨q, 1, none⟩) hqle (.int .i64 0)).setCell (p := ⟨q, 2, none⟩) hqle (.slice none 0 0)).setCell (p := ⟨q, 3, none⟩) hqle (.slice none 0 0)
   have hE := (((hR7.set_ 0 (.int .i64 0)).set_ 1 (.int .i64 0)).set_ 2 (.slice none 0 0)).set_ 3 (.slice none 0 0)
   simp only [List.setIfInBounds_toArray, List.set_cons_succ, List.set_cons_zero] at hE
   exact bodyPost_ret (one_ret rfl _ _ q _ _ _ _ _ _ rfl rfl rfl hE) rfl ⟨bE, by rw [HF.out]; rfl⟩
  obtain ⟨M, hM⟩ : ∃ M, n - t4.length = M := ⟨_, rfl⟩
  have HM := Lib.hid (show splitA b = some (⟨V1, V2, b.take M, v⟩, b.drop M) by rw [HS.out, ← hM, ← HLN.out]; rfl)
  have HLE := Lib.hid (show t4.length ≤ n by have := HLN.out; omega)
  have hMn : M ≤ n := by omega
  have hMc : M ≤ c := by omega
  have hMni : (M : Int) ≤ (n : Int) := by omega
  have wM : IntKind.i64.wrap ((n : Int) - (t4.length : Int)) = (M : Int) := by rw [show (n : Int) - (t4.length : Int) = (M : Int) by have := HLE.out; omega]; exact IntWalk.i64_in _ ⟨by omega, by omega⟩
  have HLF := Lib.hid (show ∀ w', RB w1.heap.size w' g t4 false → Calls Tryz.prog 93 #[.pointer (some ⟨g, 0, none⟩)] w' fun en w'' => en = .returned (.int .i64 ((t4.length : Nat) : Int)) ∧ w' = w'' from fun w' h => rbLeft g t4 false w' h)
  clear hM
  have e2 := hO7.cell 2
  have f2 := hO7.frozen 2
  go_wp2_with fail
  refine (HLF.out _ r7).mono ?_
  rintro _ _ ⟨rfl, rfl⟩
  go_upto_region 11 with fail
  all_goals
   obtain ⟨w8, hw8⟩ : ∃ x, w7.setCell ⟨k, 2, none⟩ (.slice A M c) = x := ⟨_, rfl⟩
   have r8 := r7.setCell (p := ⟨k, 2, none⟩) (by show _ ≤ k; omega) (by show k ≠ g; omega) (.slice A M c)
   have o8 := o7.grownAt (only_setCell (World.grownBy.refl w7 (some k)) (p := ⟨k, 2, none⟩) (.inl rfl) (.slice A M c)) (by omega)
   have hO8 := hO7.set_ 2 (.slice A M c)
   simp only [List.setIfInBounds_toArray, List.set_cons_succ, List.set_cons_zero] at hO8
   have hR8 := hR7.far (p := ⟨k, 2, none⟩) (by show q ≠ k; omega) (.slice A M c)
   have b08 := b07.setCell (p := ⟨k, 2, none⟩) (by show w.heap.size ≤ k; have := HQ.out; omega) (.slice A M c)
   rw [hw8] at r8 o8 hO8 hR8 b08
   rw [hw8]
   clear hw8 e2 f2
   have hOd : Blk w8.drew k 222 #[.int .i64 V1, .int .i64 V2, .slice A M c, .slice A6 n6 c6] := hO8
   have hRd : Blk w8.drew q 222 #[.int .i64 0, .int .i64 0, .slice none 0 0, .slice none 0 0] := hR8
   have rd : RB w1.heap.size w8.drew g t4 false := r8
   have od : OB w8.drew 5 w5.heap.size A6 n6 c6 v := o8
   have bd : Below w.heap.size w w8.drew := b08.drew
   obtain ⟨wd, hwd⟩ : ∃ x, w8.drew = x := ⟨_, rfl⟩
   rw [hwd] at hOd hRd rd od bd
   have HWD := Lib.hid hwd
   clear hwd
   have d0 := hOd.cell 0
   have d1 := hOd.cell 1
   have d2 := hOd.cell 2
   have d3 := hOd.cell 3
   have x0 := hRd.cell 0
   have x1 := hRd.cell 1
   have x2 := hRd.cell 2
   have x3 := hRd.cell 3
   have y0 := hRd.frozen 0
   have y1 := hRd.frozen 1
   have y2 := hRd.frozen 2
   have y3 := hRd.frozen 3
   have HEND := Lib.hid (show ∀ (A3 : Option Addr) (n3 c3 : Nat), A3 = (if c = M then A else A.map (·.add M)) → n3 = n - M → c3 = c - M → RetSp w A (splitA b) (.returned (.tuple #[.agg #[.int .i64 V1, .int .i64 V2, .slice A M c, .slice A6 n6 c6], .slice A3 n3 c3, .bool true])) ((((wd.setCell ⟨q, 0, none⟩ (.int .i64 V1)).setCell ⟨q, 1, none⟩ (.int .i64 V2)).setCell ⟨q, 2, none⟩ (.slice A M c)).setCell ⟨q, 3, none⟩ (.slice A6 n6 c6)) from by
    rintro A3 n3 c3 rfl rfl rfl
    have hqle : w.heap.size ≤ q := Nat.le_of_eq HQ.out
    have bE := (((bd.setCell (p := ⟨q, 0, none⟩) hqle (.int .i64 V1)).setCell (p := ⟨q, 1, none⟩) hqle (.int .i64 V2)).setCell (p := ⟨q, 2, none⟩) hqle (.slice A M c)).setCell (p := ⟨q, 3, none⟩) hqle (.slice A6 n6 c6)
    have gE := only_setCell (only_setCell (only_setCell (only_setCell (World.grownBy.refl wd (some q)) (p := ⟨q, 0, none⟩) (.inl rfl) (.int .i64 V1)) (p := ⟨q, 1, none⟩) (.inl rfl) (.int .i64 V2)) (p := ⟨q, 2, none⟩) (.inl rfl) (.slice A M c)) (p := ⟨q, 3, none⟩) (.inl rfl) (.slice A6 n6 c6)
    have hE := HH.out.below bE
    refine ⟨bE, ?_⟩
    rw [HM.out]
    refine ⟨A, M, c, A6, n6, c6, _, _, _, rfl, hE.take_ hMn, (od.grownAt gE (by omega)).low (by have := HQ.out; omega), hE.drop_ hMn hc, by omega, ⟨by show (0 : Int) ≤ (V1 : Int); omega, by show (V1 : Int) ≤ 255; omega⟩, ⟨by show (0 : Int) ≤ (V2 : Int); omega, by show (V2 : Int) ≤ 255; omega⟩, rfl, fun ad a0 e e0 => by
       subst e0
       split at e
       ·injection e with e; rw [e]
       ·simp only [Option.map_some] at e
        injection e with e
        rw [← e, block_of_add], hMc⟩)
   have HENDB := Lib.hid (show Blk ((((wd.setCell ⟨q, 0, none⟩ (.int .i64 V1)).setCell ⟨q, 1, none⟩ (.int .i64 V2)).setCell ⟨q, 2, none⟩ (.slice A M c)).setCell ⟨q, 3, none⟩ (.slice A6 n6 c6)) q 222 #[.int .i64 V1, .int .i64 V2, .slice A M c, .slice A6 n6 c6] from by
    have hE := (((hRd.set_ 0 (.int .i64 V1)).set_ 1 (.int .i64 V2)).set_ 2 (.slice A M c)).set_ 3 (.slice A6 n6 c6)
    simp only [List.setIfInBounds_toArray, List.set_cons_succ, List.set_cons_zero] at hE
    exact hE)
   rename_i hkk
   have HKK := Lib.hid hkk
   have RD := Lib.hid rd
   try clear rd
   try clear od
   try clear bd
   try clear hOd
   try clear hRd
   try clear r8
   try clear o8
   try clear hO8
   try clear hR8
   try clear b08
   try clear c_hO0
   try clear c_hO1
   try clear c_hO2
   try clear c_hO3
   try clear f_hO0
   try clear f_hO1
   try clear f_hO2
   try clear f_hO3
   try clear hO_7
   try clear hR_7
   try clear r7
   try clear o7
   try clear hO7
   try clear hR7
   try clear b07
   try clear z7
   try clear g7
   try clear b7
   try clear hO_6
   try clear hR_6
   try clear r6
   try clear o6
   try clear hO6
   try clear hR6
   try clear b06
   try clear z6
   try clear g6
   try clear b6
   try clear hO_5
   try clear hR_5
   try clear r5
   try clear o5
   try clear hO5
   try clear hR5
   try clear b05
   try clear z5
   try clear g5
   try clear b5
   try clear hO_4
   try clear hR_4
   try clear r4
   try clear o4
   try clear hO4
   try clear hR4
   try clear b04
   try clear z4
   try clear g4
   try clear b4
   try clear hO_3
   try clear hR_3
   try clear r3
   try clear o3
   try clear hO3
   try clear hR3
   try clear b03
   try clear z3
   try clear g3
   try clear b3
   try clear hO_2
   try clear hR_2
   try clear r2
   try clear o2
   try clear hO2
   try clear hR2
   try clear b02
   try clear z2
   try clear g2
   try clear b2
   try clear hO_1
   try clear hR_1
   try clear r1
   try clear o1
   try clear hO1
   try clear hR1
   try clear b01
   try clear z1
   try clear g1
   try clear b1
   try clear hO
   try clear hR
   try clear hOl
   try clear hRl
   try clear hgl
   try clear hz1
   try clear hWz
   try clear hWz0
   try clear h0
   try clear b0
   try clear b4z
   try clear e16
   try clear h16
   try clear L4
   try clear L3
   try clear L2
   try clear L1
   try clear hV1
   try clear hV2
   try clear hl
   try clear hn
   try clear hg
   by_cases hcM : c = M
   ·subst hcM
    refine wp_region_held_drew (S := (fun _ => True)) (by kernel_rfl) ?_ (fun hHeld => ?_)
    ·first | done | trivial
    rw [HWD.out]
    refine tkh 1 (h := ?_)
    try simp only [Act.put, q1, q2, q3, q4, q5, q6]
    refine tkh 2 (h := ?_)
    try simp only [Act.put, q1, q2, q3, q4, q5, q6]
    refine tkh 4 (h := ?_)
    try simp only [Act.put, q1, q2, q3, q4, q5, q6]
    refine tkh 3 (h := ?_)
    try simp only [Act.put, q1, q2, q3, q4, q5, q6]
    refine wpAnyH_ready (rs := [0, 5]) (by kernel_rfl) (by simp) ?_
    refine AllReadyH.cons rfl (fun K hK => ?_) (AllReadyH.cons rfl (fun K hK => ?_) AllReadyH.nil)
    ·skip
     go_simp
     go_wp2_with (fail)
     refine hK.out _ _ trivial (fun hHeld => ?_)
     clear hK K
     refine tkr 5 fun K hK => ?_
     go_simp
     go_wp2_with ((go_at_call 93; refine (HLF.out _ RD.out).mono ?_; rintro _ _ ⟨rfl, rfl⟩))
     refine hK.out _ _ trivial (fun hHeld => ?_)
     clear hK K
     refine tkh 6 (h := ?_)
     try simp only [Act.put, q1, q2, q3, q4, q5, q6]
     refine tkh 7 (h := ?_)
     try simp only [Act.put, q1, q2, q3, q4, q5, q6]
     refine tkr 8 fun K hK => ?_
     go_simp
     go_wp2_with (fail)
     refine hK.out _ _ trivial (fun hHeld => ?_)
     clear hK K
     refine tkr 9 fun K hK => ?_
     go_simp
     go_wp2_with (fail)
     refine hK.out _ _ trivial (fun hHeld => ?_)
     clear hK K
     refine tkr 10 fun K hK => ?_
     go_simp
     go_wp2_with (fail)
     refine hK.out _ _ trivial (fun hHeld => ?_)
     clear hK K
     refine wpAnyH_done (by kernel_rfl) ?_ _
     refine HKK.out _ _ ?_
     go_wp2_with fail
     refine bodyPost_ret (one_ret rfl _ _ q _ _ _ _ (.slice _ _ _) (.bool true) rfl rfl rfl HENDB.out) rfl (HEND.out _ _ _ ?_ ?_ ?_)
     ·first | (simp; done) | (rw [if_neg hcM]; done) | (trace_state; sorry)
     ·first | rfl | omega
     ·first | rfl | omega
    ·skip
     go_simp
     go_wp2_with ((go_at_call 93; refine (HLF.out _ RD.out).mono ?_; rintro _ _ ⟨rfl, rfl⟩))
     refine hK.out _ _ trivial (fun hHeld => ?_)
     clear hK K
     refine tkh 6 (h := ?_)
     try simp only [Act.put, q1, q2, q3, q4, q5, q6]
     refine tkh 7 (h := ?_)
     try simp only [Act.put, q1, q2, q3, q4, q5, q6]
     refine tkr 0 fun K hK => ?_
     go_simp
     go_wp2_with (fail)
     refine hK.out _ _ trivial (fun hHeld => ?_)
     clear hK K
     refine tkr 8 fun K hK => ?_
     go_simp
     go_wp2_with (fail)
     refine hK.out _ _ trivial (fun hHeld => ?_)
     clear hK K
     refine tkr 9 fun K hK => ?_
     go_simp
     go_wp2_with (fail)
     refine hK.out _ _ trivial (fun hHeld => ?_)
     clear hK K
     refine tkr 10 fun K hK => ?_
     go_simp
     go_wp2_with (fail)
     refine hK.out _ _ trivial (fun hHeld => ?_)
     clear hK K
     refine wpAnyH_done (by kernel_rfl) ?_ _
     refine HKK.out _ _ ?_
     go_wp2_with fail
     refine bodyPost_ret (one_ret rfl _ _ q _ _ _ _ (.slice _ _ _) (.bool true) rfl rfl rfl HENDB.out) rfl (HEND.out _ _ _ ?_ ?_ ?_)
     ·first | (simp; done) | (rw [if_neg hcM]; done) | (trace_state; sorry)
     ·first | rfl | omega
     ·first | rfl | omega
   ·refine wp_region_held_drew (S := (fun _ => True)) (by kernel_rfl) ?_ (fun hHeld => ?_)
    ·first | done | trivial
    rw [HWD.out]
    refine tkh 1 (h := ?_)
    try simp only [Act.put, q1, q2, q3, q4, q5, q6]
    refine tkh 2 (h := ?_)
    try simp only [Act.put, q1, q2, q3, q4, q5, q6]
    refine tkh 4 (h := ?_)
    try simp only [Act.put, q1, q2, q3, q4, q5, q6]
    refine tkh 3 (h := ?_)
    try simp only [Act.put, q1, q2, q3, q4, q5, q6]
    refine wpAnyH_ready (rs := [0, 5]) (by kernel_rfl) (by simp) ?_
    refine AllReadyH.cons rfl (fun K hK => ?_) (AllReadyH.cons rfl (fun K hK => ?_) AllReadyH.nil)
    ·skip
     go_simp
     go_wp2_with (fail)
     refine hK.out _ _ trivial (fun hHeld => ?_)
     clear hK K
     refine tkr 5 fun K hK => ?_
     go_simp
     go_wp2_with ((go_at_call 93; refine (HLF.out _ RD.out).mono ?_; rintro _ _ ⟨rfl, rfl⟩))
     refine hK.out _ _ trivial (fun hHeld => ?_)
     clear hK K
     refine tkh 6 (h := ?_)
     try simp only [Act.put, q1, q2, q3, q4, q5, q6]
     refine tkh 7 (h := ?_)
     try simp only [Act.put, q1, q2, q3, q4, q5, q6]
     refine tkr 8 fun K hK => ?_
     go_simp
     go_wp2_with (fail)
     refine hK.out _ _ trivial (fun hHeld => ?_)
     clear hK K
     refine tkr 9 fun K hK => ?_
     go_simp
     go_wp2_with (fail)
     refine hK.out _ _ trivial (fun hHeld => ?_)
     clear hK K
     refine tkr 10 fun K hK => ?_
     go_simp
     go_wp2_with (fail)
     refine hK.out _ _ trivial (fun hHeld => ?_)
     clear hK K
     refine wpAnyH_done (by kernel_rfl) ?_ _
     refine HKK.out _ _ ?_
     go_wp2_with fail
     refine bodyPost_ret (one_ret rfl _ _ q _ _ _ _ (.slice _ _ _) (.bool true) rfl rfl rfl HENDB.out) rfl (HEND.out _ _ _ ?_ ?_ ?_)
     ·first | (simp; done) | (rw [if_neg hcM]; done) | (trace_state; sorry)
     ·first | rfl | omega
     ·first | rfl | omega
    ·skip
     go_simp
     go_wp2_with ((go_at_call 93; refine (HLF.out _ RD.out).mono ?_; rintro _ _ ⟨rfl, rfl⟩))
     refine hK.out _ _ trivial (fun hHeld => ?_)
     clear hK K
     refine tkh 6 (h := ?_)
     try simp only [Act.put, q1, q2, q3, q4, q5, q6]
     refine tkh 7 (h := ?_)
     try simp only [Act.put, q1, q2, q3, q4, q5, q6]
     refine tkr 0 fun K hK => ?_
     go_simp
     go_wp2_with (fail)
     refine hK.out _ _ trivial (fun hHeld => ?_)
     clear hK K
     refine tkr 8 fun K hK => ?_
     go_simp
     go_wp2_with (fail)
     refine hK.out _ _ trivial (fun hHeld => ?_)
     clear hK K
     refine tkr 9 fun K hK => ?_
     go_simp
     go_wp2_with (fail)
     refine hK.out _ _ trivial (fun hHeld => ?_)
     clear hK K
     refine tkr 10 fun K hK => ?_
     go_simp
     go_wp2_with (fail)
     refine hK.out _ _ trivial (fun hHeld => ?_)
     clear hK K
     refine wpAnyH_done (by kernel_rfl) ?_ _
     refine HKK.out _ _ ?_
     go_wp2_with fail
     refine bodyPost_ret (one_ret rfl _ _ q _ _ _ _ (.slice _ _ _) (.bool true) rfl rfl rfl HENDB.out) rfl (HEND.out _ _ _ ?_ ?_ ?_)
     ·first | (simp; done) | (rw [if_neg hcM]; done) | (trace_state; sorry)
     ·first | rfl | omega
     ·first | rfl | omega
theorem run_copy_rowK {P : Program} (w : World) (dT sT ty elem : TypeId) (k g o dLen dCap : Nat) (a : Addr) (sLen sCap : Nat) (cur : Array Value) (t : TypeId) (cs : List Value)
  (hu : P.underlying dT = some (.slice elem)) (hs : (P.info? elem).map (·.size) = some k)
  (hg : w.heap[g]? = some (.cells cur t (0, 0))) (m : Nat) (hm : Nat.min sLen dLen = m) (hn : cs.length = m * k)
  (hsrc : ∀ j v, cs[j]? = some v → w.cell? (a.add j) = some v) (hfit : o + cs.length ≤ cur.size) (h1 : ∀ v ∈ cs, v.oneCell' = true) :
  (Builtin.copy_ #[dT, sT] ty #[.slice (some ⟨g, o, none⟩) dLen dCap, .slice (some a) sLen sCap]).run P w =
   .ok (goInt m) (w.setRow g (cur.toList.take o ++ cs ++ cur.toList.drop (o + cs.length)).toArray) := by
 have hl := run_loadCells_list (P := P) w a cs hsrc
 have hst := run_storeCells_at P g o t cs 0 cur w hg (by simpa using hfit) h1
 cases hq : P.info? elem with
 | none => simp [hq] at hs
 | some i =>
  have hi : i.size = k := by simpa [hq] using hs
  simp [Builtin.copy_, run_underlying hu, Builtin.lenOf, Builtin.firstCells, sizeOf, typeInfo, hq, hi, hm, ← hn, hl, hst]
theorem wpl_copyK {P : Program} (w : World) {ops : Array Oper} {rest : List Oper} {o : Oper} {a : Act} {Q : Exit → Act → World → Prop} (hgd : o.guard = none) (d s : Operand) (t t' : TypeId)
  (ho : o.op = .call { callee := .builtin .copy, args := #[d, s], argTypes := #[t, t'] }) (v u : Value) (hd : a.eval d = v) (hs : a.eval s = u) {v' : Value} {w' : World}
  (hr : (Builtin.copy_ #[t, t'] o.type #[v, u]).run P w = .ok v' w') (h : wpList P ops Q rest (a.put o.dst v') w') : wpList P ops Q (o :: rest) a w :=
 wpList_plain hgd fun _ hK => by
  unfold Oper.wp execOp
  simp only [ho, resolve, invoke, builtin, Sem.run_bind, Sem.run_pure, Result.andThen_ok, List.map_toArray, List.map_cons, List.map_nil, hd, hs, hr]
  exact hK _ _ h
theorem step_copyK {P : Program} {ops : Array Oper} {o : Oper} {a : Act} {w : World} {K : Act → World → Prop} {Q : Exit → Act → World → Prop} {E : Prop}
  (hg : o.guard = none) (d x : Operand) (dT sT : TypeId) (hop : o.op = Op.call { callee := Callee.builtin Builtin.copy, args := #[d, x], argTypes := #[dT, sT] })
  (v u : Value) (hd : a.eval d = v) (hx : a.eval x = u) {v' : Value} {w' : World} (hr : (Builtin.copy_ #[dT, sT] o.type #[v, u]).run P w = .ok v' w') (hK : K (a.put o.dst v') w') :
  if Region.wanted o (yielded ops a.tmps) = true then Oper.wp P o a w K Q else E := by
 have hw : Region.wanted o (yielded ops a.tmps) = true := by simp [Region.wanted, hg]
 rw [if_pos hw]
 unfold Oper.wp
 simp [execOp, hop, resolve, invoke, builtin, hd, hx, hr, Result.andThen]
 exact hK
theorem shiftL {cur xs vs : List Value} {m a k : Nat} (h : cur.take m = xs) (hx : xs.length = m) (ha : a ≤ m) (hv : vs.length = k) (hc : m + k ≤ cur.length) :
  let r1 := cur.take (a + k) ++ xs.drop a ++ cur.drop (a + k + (xs.drop a).length)
  let r2 := r1.take a ++ vs ++ r1.drop (a + vs.length)
  r1.length = cur.length ∧ r2.length = cur.length ∧ r2.take (m + k) = xs.take a ++ vs ++ xs.drop a := by
 intro r1 r2
 have e0 : (xs.drop a).length = m - a := by rw [List.length_drop, hx]
 have e1 : r1.length = cur.length := by
  simp only [r1, List.length_append, List.length_take, List.length_drop]; omega
 have e2 : r2.length = cur.length := by
  simp only [r2, List.length_append, List.length_take, List.length_drop]; omega
 refine ⟨e1, e2, ?_⟩
 have t1 : r1.take a = xs.take a := by
  simp only [r1]
  rw [List.append_assoc, List.take_append_of_le_length (by rw [List.length_take]; omega), List.take_take, Nat.min_eq_left (by omega), ← h, List.take_take, Nat.min_eq_left ha]
 have t2 : r1.drop (a + vs.length) = xs.drop a ++ cur.drop (a + k + (xs.drop a).length) := by
  simp only [r1]
  rw [hv, List.append_assoc, List.drop_left' (by rw [List.length_take]; omega)]
 simp only [r2]
 rw [t1, t2, ← List.append_assoc (xs.take a ++ vs), List.take_left' (by simp only [List.length_append, List.length_take]; omega)]
theorem growL {R xs vs : List Value} {m a k : Nat} (h : R.take a = xs.take a) (hx : xs.length = m) (ha : a ≤ m) (hv : vs.length = k) (hc : m + k ≤ R.length) :
  let r1 := R.take a ++ vs ++ R.drop (a + vs.length)
  let r2 := r1.take (a + k) ++ xs.drop a ++ r1.drop (a + k + (xs.drop a).length)
  r1.length = R.length ∧ r2.length = R.length ∧ r2.take (m + k) = xs.take a ++ vs ++ xs.drop a := by
 intro r1 r2
 have e0 : (xs.drop a).length = m - a := by rw [List.length_drop, hx]
 have e1 : r1.length = R.length := by
  simp only [r1, List.length_append, List.length_take, List.length_drop]; omega
 have e2 : r2.length = R.length := by
  simp only [r2, List.length_append, List.length_take, List.length_drop]; omega
 refine ⟨e1, e2, ?_⟩
 have t1 : r1.take (a + k) = xs.take a ++ vs := by
  simp only [r1]
  rw [List.take_left' (by simp only [List.length_append, List.length_take]; omega), h]
 simp only [r2]
 rw [t1, List.take_left' (by simp only [List.length_append, List.length_take]; omega)]
theorem blk_shape {w : World} {g : Nat} {t : TypeId} {cs : Array Value} (h : w.heap[g]? = some (.cells cs t (0, 0))) : w.shape? g = some (t, cs.size) := by simp [World.shape?, h]
theorem blk_clear {w : World} {g : Nat} {t : TypeId} {cs : Array Value} (h : w.heap[g]? = some (.cells cs t (0, 0))) (j : Nat) : w.frozen? ⟨g, j, none⟩ = false := by simp [World.frozen?, h]
/-- One value more at a place. -/
def RetIns (w : World) (base : Nat) (e : TypeId) (K : Nat) (A : Option Addr) (n c : Nat) (xs : List Value) (en : Ending) (w' : World) : Prop :=
 ∃ (A2 : Option Addr) (c2 : Nat), en = .returned (.slice A2 (n + 1) c2) ∧ w'.ownsRow base e K (.slice A2 (n + 1) c2) (n + 1) xs ∧ w.grownBy w' (Value.ownBlock (.slice A n c)) ∧ (Value.ownBlock (.slice A2 (n + 1) c2) = Value.ownBlock (.slice A n c) ∨ Value.ownBlock (.slice A2 (n + 1) c2) = some w.heap.size)
theorem setRow_grown {w : World} {g : Nat} {cs : Array Value} {row : Option Nat} (h : row = some g) : w.grownBy (w.setRow g cs) row := ⟨rfl, rfl, rfl, by simp, fun k _ hk => setRow_other w g k cs (by intro e; subst e; exact hk h.symm)⟩
theorem zero_len (z : Array Value) (k : Nat) (n : Nat) (h : z.size = k) : (Builtin.zeroCells z n).size = n * k := by
 induction n with
 | zero => simp [Builtin.zeroCells]
 | succ n ih =>
  simp only [Builtin.zeroCells] at ih ⊢
  rw [← h]
  simp [Nat.add_mul]
theorem ins_infoR : (Tryz.prog.info? 168).map (fun i => (i.zero, i.size, i.bytes)) = some (some (.agg #[.int .i64 0, .int .i64 0, .slice none 0 0]), 3, 40) := by kernel_rfl
set_option maxHeartbeats 4000000 in
set_option maxRecDepth 100000 in
theorem insertR (base : Nat) (A : Option Addr) (n c i vb : Nat) (T : TypeId) (xs vs : List Value) (w : World) (ho : w.ownsRow base 168 3 (.slice A n c) n xs) (hi : i ≤ n) (hv : Blk w vb T vs.toArray) (hvl : vs.length = 3) (hvb : Value.ownBlock (.slice A n c) ≠ some vb) (h1v : ∀ v ∈ vs, v.oneCell' = true) (h1x : ∀ v ∈ xs, v.oneCell' = true) (hbig : n ≤ 100000) (hbase : base ≤ w.heap.size) :
  Calls Tryz.prog 202 #[.slice A n c, .int .i64 i, .slice (some ⟨vb, 0, none⟩) 1 1] w (RetIns w base 168 3 A n c (xs.take (i * 3) ++ vs ++ xs.drop (i * 3))) := by
 have hxl := ho.1
 have hrd : Reads w w.heap.size 3 (some ⟨vb, 0, none⟩) 1 vs := ⟨by rw [hvl], fun _ => ⟨_, rfl, hv.lt, fun j u hu => by rw [addr_add, Nat.zero_add, hv.cell]; simpa using hu⟩⟩
 by_cases hin : i = n
 ·subst hin
  have e0 : xs.take (i * 3) ++ vs ++ xs.drop (i * 3) = xs ++ vs := by
   rw [List.take_of_length_le (by omega), List.drop_eq_nil_of_le (by omega), List.append_nil]
  rw [e0]
  have HXL := Lib.hid hxl
  have HB := Lib.hid hbase
  have HV := Lib.hid hvb
  have hii : (i : Int) ≤ (i : Int) := Int.le_refl _
  have hcap := own_cap ho
  have hci : (i : Int) ≤ (c : Int) := by omega
  clear hxl hbase e0 hvb hi
  by_cases hci0 : c = i
  ·subst hci0
   have W0 := Lib.hid (And.intro hii hcap)
   clear hci hii hcap
   go_enter Tryz.func202, Tryz.ntmps202
   go_wp2_with (at_builtin; refine wpl_appR rfl (.tmp 23) (.tmp 24) 73 rfl 168 (.agg #[.int .i64 0, .int .i64 0, .slice none 0 0]) 3 40 Tryz.underlying73 ins_infoR rfl (by omega) base A c c xs (by rfl) ho w.heap.size (some ⟨vb, 0, none⟩) 1 1 vs (by rfl) hrd h1v (by unfold maxLen; omega) (by omega) HB.out ?_; intro A2 c2 w2 o2 b2 g2 at2)
   go_ret
   exact ⟨A2, c2, rfl, o2, g2, at2⟩
  go_enter Tryz.func202, Tryz.ntmps202
  go_wp2_with (at_builtin; refine wpl_appR rfl (.tmp 23) (.tmp 24) 73 rfl 168 (.agg #[.int .i64 0, .int .i64 0, .slice none 0 0]) 3 40 Tryz.underlying73 ins_infoR rfl (by omega) base A i c xs (by rfl) ho w.heap.size (some ⟨vb, 0, none⟩) 1 1 vs (by rfl) hrd h1v (by unfold maxLen; omega) (by omega) HB.out ?_; intro A2 c2 w2 o2 b2 g2 at2)
  go_ret
  exact ⟨A2, c2, rfl, o2, g2, at2⟩
 obtain ⟨g, cur, rfl, hbg, hg, hnc, hcm, hcs, hct⟩ : ∃ g cur, A = some ⟨g, 0, none⟩ ∧ base ≤ g ∧ w.heap[g]? = some (.cells cur 168 (0, 0)) ∧ n ≤ c ∧ c ≤ maxLen ∧ cur.size = c * 3 ∧ cur.toList.take (n * 3) = xs := by
  rcases ho.2 with ⟨h1, h2⟩ | ⟨g, cap, cur, h1, h2, h3, h4, h5, h6, h7⟩
  ·omega
  ·injection h1 with e1 e2 e3
   subst e1 e3
   exact ⟨g, cur, rfl, h2, h3, h4, h5, h6, h7⟩
 have hlt : i < n := by omega
 have hne : g ≠ vb := fun e => hvb (by rw [e]; rfl)
 have hgw : g < w.heap.size := (Array.getElem?_eq_some_iff.1 hg).1
 have hvw := hv.lt
 have hsz : (Tryz.prog.info? 168).map (·.size) = some 3 := by kernel_rfl
 have hu := Tryz.underlying73
 have hc63 : c ≤ 9223372036854775807 := by unfold maxLen at hcm; omega
 have hcl : cur.toList.length = c * 3 := by rw [Array.length_toList, hcs]
 have z2 : ((i : Int) == (n : Int)) = false := by simp; omega
 have hw1 : IntKind.i64.wrap ((n : Int) + 1) = (n : Int) + 1 := IntWalk.i64_in _ ⟨by omega, by omega⟩
 have hw2 : IntKind.i64.wrap ((i : Int) + 1) = (i : Int) + 1 := IntWalk.i64_in _ ⟨by omega, by omega⟩
 have htn : ((i : Int) + 1).toNat = i + 1 := by omega
 have htm : ((n : Int) + 1).toNat = n + 1 := by omega
 have hin2 : (i : Int) ≤ (n : Int) := by omega
 have hnc2 : (n : Int) ≤ (c : Int) := by omega
 have hcellx : ∀ j v, (xs.drop (i * 3))[j]? = some v → w.cell? ⟨g, i * 3 + j, none⟩ = some v := fun j v hj => by
  rw [List.getElem?_drop] at hj
  have := ho.cellAt (i * 3 + j) (by rw [← hxl]; exact (List.getElem?_eq_some_iff.1 hj).1)
  rw [this]; exact hj
 have hdl : (xs.drop (i * 3)).length = (n - i) * 3 := by rw [List.length_drop, hxl]; omega
 have h1d : ∀ v ∈ xs.drop (i * 3), v.oneCell' = true := fun v hv => h1x v (List.mem_of_mem_drop hv)
 by_cases hroom : n + 1 ≤ c
 ·have z3 : decide ((c : Int) < (n : Int) + 1) = false := decide_eq_false (by omega)
  have z3' : decide (c < n + 1) = false := decide_eq_false (by omega)
  obtain ⟨l1, l2, l3⟩ := shiftL (cur := cur.toList) (vs := vs) (a := i * 3) (k := 3) hct hxl (by omega) hvl (by rw [hcl]; omega)
  obtain ⟨r1, hr1⟩ : ∃ r1, cur.toList.take (i * 3 + 3) ++ xs.drop (i * 3) ++ cur.toList.drop (i * 3 + 3 + (xs.drop (i * 3)).length) = r1 := ⟨_, rfl⟩
  rw [hr1] at l1 l2 l3
  have hov : ∀ lb cb, (callFunc 232 #[.slice (some ⟨vb, 0, none⟩) 1 1, .slice (some ⟨g, (i + 1) * 3, none⟩) lb cb]).run Tryz.prog w = .ok (.value (.bool false)) w := fun lb cb => by
   rw [run_callFunc_extern Tryz.func232 (by kernel_rfl) (by kernel_rfl) (by kernel_rfl) (e := Extern.SlicesOverlaps.overlaps #[73, 73] #[4]) (by kernel_rfl),
    Lib.run_overlaps_apart w 73 4 168 hu 3 (fun w => by kernel_rfl) ⟨vb, 0, none⟩ ⟨g, (i + 1) * 3, none⟩ 1 1 lb cb (fun e => hne e.symm) _ _ _ _ (blk_shape hv) (blk_shape hg) (by rw [hcs]; omega) (blk_clear hv _) (blk_clear hv _)]
   rfl
  have hcp1 : ∀ ty dc sc, (Builtin.copy_ #[73, 73] ty #[.slice (some ⟨g, (i + 1) * 3, none⟩) (n - i) dc, .slice (some ⟨g, i * 3, none⟩) (n + 1 - i) sc]).run Tryz.prog w.drew = .ok (goInt ((n - i : Nat) : Int)) (w.drew.setRow g r1.toArray) := fun ty dc sc => by
   have := run_copy_rowK (P := Tryz.prog) w.drew 73 73 ty 168 3 g ((i + 1) * 3) (n - i) dc ⟨g, i * 3, none⟩ (n + 1 - i) sc cur 168 (xs.drop (i * 3)) hu hsz hg (n - i) (by simp only [Nat.min_def]; split <;> omega) hdl
    (fun j v hj => by rw [addr_add, show (i * 3) + j = i * 3 + j by omega]; exact hcellx j v hj) (by rw [hdl, hcs]; omega) h1d
   rw [this]
   first | rw [show ((i + 1) * 3) = i * 3 + 3 by omega, hr1] | rw [show i + 1 = i * 3 + 3 by omega, hr1]
  obtain ⟨W1, hW1⟩ : ∃ W1, w.drew.setRow g r1.toArray = W1 := ⟨_, rfl⟩
  have hg1 : W1.heap[g]? = some (.cells r1.toArray 168 (0, 0)) := by rw [← hW1]; exact setRow_heap w.drew g cur r1.toArray _ _ hg
  have hv1 : Blk W1 vb T vs.toArray := by rw [← hW1]; exact (setRow_other w.drew g vb r1.toArray (fun e => hne e.symm)).trans hv
  have hcp2 : ∀ ty dc, (Builtin.copy_ #[73, 73] ty #[.slice (some ⟨g, i * 3, none⟩) (n + 1 - i) dc, .slice (some ⟨vb, 0, none⟩) 1 1]).run Tryz.prog W1 = .ok (goInt 1) (W1.setRow g (r1.take (i * 3) ++ vs ++ r1.drop (i * 3 + vs.length)).toArray) := fun ty dc => by
   have := run_copy_rowK (P := Tryz.prog) W1 73 73 ty 168 3 g (i * 3) (n + 1 - i) dc ⟨vb, 0, none⟩ 1 1 r1.toArray 168 vs hu hsz hg1 1 (by simp only [Nat.min_def]; split <;> omega) (by rw [hvl])
    (fun j v hj => by rw [addr_add, Nat.zero_add, hv1.cell]; simpa using hj) (by rw [hvl, List.size_toArray, l1, hcl]; omega) h1v
   rw [this]
   simp
  have hown2 : (W1.setRow g (r1.take (i * 3) ++ vs ++ r1.drop (i * 3 + vs.length)).toArray).ownsRow base 168 3 (.slice (some ⟨g, 0, none⟩) (n + 1) c) (n + 1) (xs.take (i * 3) ++ vs ++ xs.drop (i * 3)) := by
   refine ⟨by simp only [List.length_append, List.length_take, hdl, hxl, hvl]; omega, .inr ⟨g, c, (r1.take (i * 3) ++ vs ++ r1.drop (i * 3 + vs.length)).toArray, rfl, hbg, setRow_heap W1 g _ _ _ _ hg1, hroom, hcm, by rw [List.size_toArray, l2, hcl], ?_⟩⟩
   rw [show (n + 1) * 3 = n * 3 + 3 by omega]
   exact l3
  have hgr : w.grownBy (W1.setRow g (r1.take (i * 3) ++ vs ++ r1.drop (i * 3 + vs.length)).toArray) (some g) := by
   have g1 : w.drew.grownBy W1 (some g) := by rw [← hW1]; exact setRow_grown rfl
   have g2 : W1.grownBy (W1.setRow g (r1.take (i * 3) ++ vs ++ r1.drop (i * 3 + vs.length)).toArray) (some g) := setRow_grown rfl
   exact ⟨g2.os.trans g1.os, g2.tape.trans g1.tape, g2.output.trans g1.output, Nat.le_trans g1.size g2.size, fun k hk hkg => (g2.block k (Nat.lt_of_lt_of_le hk g1.size) hkg).trans (g1.block k hk hkg)⟩
  obtain ⟨W2, hW2⟩ : ∃ W2, W1.setRow g (r1.take (i * 3) ++ vs ++ r1.drop (i * 3 + vs.length)).toArray = W2 := ⟨_, rfl⟩
  rw [hW2] at hcp2 hown2 hgr
  rw [hW1] at hcp1
  have HOW := Lib.hid hown2
  have HGR := Lib.hid hgr
  have hb2 : ¬ (c = i + 1) := by omega
  have hb3 : (i : Int) ≤ (n : Int) + 1 := by omega
  have hb4 : ¬ (c = i) := by omega
  have hb5 : (n : Int) + 1 ≤ (c : Int) := by omega
  have hb6 : (i : Int) + 1 ≤ (n : Int) + 1 := by omega
  have hbk : (n : Int) + 1 ≤ 9223372036854775807 := by omega
  have hb1 : (0 : Int) ≤ (i : Int) + 1 := by omega
  have mixed : Tryz.prog.follows Departure.mixedOrders = true := by kernel_rfl
  clear hW1 hW2 hr1 l1 l2 l3 hown2 hgr ho hct hcs hcl hxl hcellx hdl
  go_enter Tryz.func202, Tryz.ntmps202
  go_wp2_with (simp only [hov])
  go_region_law_o (refine step_copyK rfl _ _ 73 73 rfl _ _ (by simp [Act.eval, Act.put]) (by simp [Act.eval, Act.put]) (hcp1 _ _ _) ?_)
  go_wp2_with (at_builtin; refine wpl_copyK _ rfl _ _ 73 73 rfl _ _ rfl rfl (hcp2 _ _) ?_)
  go_ret
  exact ⟨_, c, rfl, HOW.out, HGR.out, .inl rfl⟩
 ·obtain ⟨i0, hi0, hz0, hzs, hzb⟩ : ∃ i0, Tryz.prog.info? 168 = some i0 ∧ i0.zero = some (.agg #[.int .i64 0, .int .i64 0, .slice none 0 0]) ∧ i0.size = 3 ∧ i0.bytes = 40 := by
   have := ins_infoR
   simp only [Option.map_eq_some_iff, Prod.mk.injEq] at this
   exact this
  have hkk : (n : Int) + 1 - (i : Int) = ((n + 1 - i : Nat) : Int) := by omega
  have hik : i + (n + 1 - i) = n + 1 := by omega
  have hold : (Builtin.firstCells i0.size i (.slice (some ⟨g, 0, none⟩) i c)).run Tryz.prog w.drew = .ok (xs.take (i * 3)).toArray w.drew := by
   rw [hzs]
   exact run_firstCells_some w.drew 3 i ⟨g, 0, none⟩ i c (xs.take (i * 3)) (by rw [List.length_take]; omega) (fun j v hj => by
    rw [addr_add, Nat.zero_add]
    rw [List.getElem?_take] at hj
    split at hj
    ·have := ho.cellAt j (by rw [← hxl]; exact (List.getElem?_eq_some_iff.1 hj).1)
     exact this.trans hj
    ·cases hj)
  obtain ⟨G, hG⟩ : ∃ G, grownCap w (n + 1) c 168 = G := ⟨_, rfl⟩
  have hGn : n + 1 ≤ G := by rw [← hG]; exact grownCap_ge w _ _ _
  have hGm : G ≤ maxLen := by rw [← hG]; exact grownCap_le_maxLen w (n + 1) c 168 (by unfold maxLen; omega)
  obtain ⟨R, hR⟩ : ∃ R : Array Value, (xs.take (i * 3)).toArray ++ Builtin.zeroCells (Value.cells (.agg #[.int .i64 0, .int .i64 0, .slice none 0 0])) (n + 1 - i) ++ Builtin.zeroCells (Value.cells (.agg #[.int .i64 0, .int .i64 0, .slice none 0 0])) (G - (n + 1)) = R := ⟨_, rfl⟩
  have hRs : R.toList.length = G * 3 := by
   rw [← hR, Array.length_toList, Array.size_append, Array.size_append, zero_len _ 3 _ rfl, zero_len _ 3 _ rfl, List.size_toArray, List.length_take, hxl]
   omega
  have hRt : R.toList.take (i * 3) = xs.take (i * 3) := by
   rw [← hR]
   simp only [Array.toList_append, List.append_assoc]
   rw [List.take_left' (by rw [List.length_take, hxl]; omega)]
  have hrz : ∀ ty, (Builtin.append_ #[73, 3] ty #[.slice (some ⟨g, 0, none⟩) i c, .int .i64 ((n : Int) + 1 - (i : Int))]).run Tryz.prog w =
    .ok (.slice (some ⟨w.heap.size, 0, none⟩) (n + 1) G) (w.drew.alloc (.cells R 168)) := fun ty => by
   have h := Lib.run_append_grow_zeros (P := Tryz.prog) w 73 3 ty 168 i0 _ .i64 .i64 hu Tryz.underlying3 hi0 hz0 (some ⟨g, 0, none⟩) i c (xs.take (i * 3)) hold (n + 1 - i) (by omega) (by omega) (by omega) (by omega) (by rw [hzb]; omega) (by rw [hzb, hik]; exact growslice_fits (by omega) (by omega))
   rw [hik, hG, hR] at h
   rw [hkk]
   exact h
  obtain ⟨N, hN⟩ : ∃ N, w.heap.size = N := ⟨_, rfl⟩
  obtain ⟨W1, hW1⟩ : ∃ W1, w.drew.alloc (.cells R 168) = W1 := ⟨_, rfl⟩
  have hg1 : W1.heap[N]? = some (.cells R 168 (0, 0)) := by rw [← hW1, ← hN]; exact Blk.new w.drew 168 R
  have b1 : Below w.heap.size w W1 := by rw [← hW1]; exact (Below.refl _ _).drew.alloc (Nat.le_refl _) _
  have hv1 : Blk W1 vb T vs.toArray := hv.below b1 hvw
  have ho1 : W1.ownsRow base 168 3 (.slice (some ⟨g, 0, none⟩) n c) n xs := own_below ho b1
  obtain ⟨l1, l2, l3⟩ := growL (R := R.toList) (vs := vs) (a := i * 3) (k := 3) hRt hxl (by omega) hvl (by rw [hRs]; omega)
  obtain ⟨r1, hr1⟩ : ∃ r1, R.toList.take (i * 3) ++ vs ++ R.toList.drop (i * 3 + vs.length) = r1 := ⟨_, rfl⟩
  rw [hr1] at l1 l2 l3
  rw [hN, hW1] at hrz
  have hcpA : ∀ ty dc, (Builtin.copy_ #[73, 73] ty #[.slice (some ⟨N, i * 3, none⟩) (n + 1 - i) dc, .slice (some ⟨vb, 0, none⟩) 1 1]).run Tryz.prog W1 = .ok (goInt 1) (W1.setRow N r1.toArray) := fun ty dc => by
   have := run_copy_rowK (P := Tryz.prog) W1 73 73 ty 168 3 N (i * 3) (n + 1 - i) dc ⟨vb, 0, none⟩ 1 1 R 168 vs hu hsz hg1 1 (by simp only [Nat.min_def]; split <;> omega) (by rw [hvl])
    (fun j v hj => by rw [addr_add, Nat.zero_add, hv1.cell]; simpa using hj) (by rw [hvl, ← Array.length_toList, hRs]; omega) h1v
   rw [this, show (i * 3) = i * 3 by omega, hr1]
   rfl
  obtain ⟨W2, hW2⟩ : ∃ W2, W1.setRow N r1.toArray = W2 := ⟨_, rfl⟩
  rw [hW2] at hcpA
  have hg2 : W2.heap[N]? = some (.cells r1.toArray 168 (0, 0)) := by rw [← hW2]; exact setRow_heap W1 N R r1.toArray _ _ hg1
  have hgN : g ≠ N := by omega
  have ho2 : ∀ j, j < n * 3 → W2.cell? ⟨g, j, none⟩ = xs[j]? := fun j hj => by
   rw [← ho1.cellAt j hj, ← hW2]
   exact World.cell?_of_block (setRow_other W1 N g r1.toArray hgN)
  have hcpB : ∀ ty dc sc, (Builtin.copy_ #[73, 73] ty #[.slice (some ⟨N, (i + 1) * 3, none⟩) (n - i) dc, .slice (some ⟨g, i * 3, none⟩) (n - i) sc]).run Tryz.prog W2.drew = .ok (goInt ((n - i : Nat) : Int)) (W2.drew.setRow N (r1.take (i * 3 + 3) ++ xs.drop (i * 3) ++ r1.drop (i * 3 + 3 + (xs.drop (i * 3)).length)).toArray) := fun ty dc sc => by
   have := run_copy_rowK (P := Tryz.prog) W2.drew 73 73 ty 168 3 N ((i + 1) * 3) (n - i) dc ⟨g, i * 3, none⟩ (n - i) sc r1.toArray 168 (xs.drop (i * 3)) hu hsz hg2 (n - i) (by simp only [Nat.min_def]; split <;> omega) hdl
    (fun j v hj => by
     rw [addr_add, show (i * 3) + j = i * 3 + j by omega]
     rw [List.getElem?_drop] at hj
     exact (ho2 (i * 3 + j) (by rw [← hxl]; exact (List.getElem?_eq_some_iff.1 hj).1)).trans hj) (by rw [hdl, List.size_toArray, l1, hRs]; omega) h1d
   rw [this, show ((i + 1) * 3) = i * 3 + 3 by omega]
  obtain ⟨W3, hW3⟩ : ∃ W3, W2.drew.setRow N (r1.take (i * 3 + 3) ++ xs.drop (i * 3) ++ r1.drop (i * 3 + 3 + (xs.drop (i * 3)).length)).toArray = W3 := ⟨_, rfl⟩
  rw [hW3] at hcpB
  have HOW := Lib.hid (show W3.ownsRow base 168 3 (.slice (some ⟨N, 0, none⟩) (n + 1) G) (n + 1) (xs.take (i * 3) ++ vs ++ xs.drop (i * 3)) from by
   refine ⟨by simp only [List.length_append, List.length_take, hdl, hxl, hvl]; omega, .inr ⟨N, G, (r1.take (i * 3 + 3) ++ xs.drop (i * 3) ++ r1.drop (i * 3 + 3 + (xs.drop (i * 3)).length)).toArray, rfl, by omega, by rw [← hW3]; exact setRow_heap W2.drew N _ _ _ _ hg2, hGn, hGm, by rw [List.size_toArray, l2, hRs], ?_⟩⟩
   rw [show (n + 1) * 3 = n * 3 + 3 by omega]
   exact l3)
  have HGR := Lib.hid (show w.grownBy W3 (some g) from by
   refine ⟨?_, ?_, ?_, ?_, fun k hk hkg => ?_⟩
   ·rw [← hW3, ← hW2]; exact b1.os
   ·rw [← hW3, ← hW2]; exact b1.tape
   ·rw [← hW3, ← hW2]; exact b1.output
   ·rw [← hW3, ← hW2]; have := b1.size; simpa using this
   ·have hkN : k ≠ N := by omega
    rw [← hW3, setRow_other _ _ _ _ hkN, ← hW2]
    exact (setRow_other _ _ _ _ hkN).trans (b1.block k hk))
  have z3 : decide ((c : Int) < (n : Int) + 1) = true := decide_eq_true (by omega)
  have z3' : decide (c < n + 1) = true := decide_eq_true (by omega)
  have HNN := Lib.hid hN
  have hGi : ¬ (G = i) := by omega
  have hGim : ¬ (G = i + 1) := by omega
  have hci : ¬ (c = i) := by omega
  have hb1 : (0 : Int) ≤ (i : Int) + 1 := by omega
  have hb3 : (i : Int) ≤ (n : Int) + 1 := by omega
  have hb6 : (i : Int) + 1 ≤ (n : Int) + 1 := by omega
  have hic : (i : Int) ≤ (c : Int) := by omega
  have hw4 : IntKind.i64.wrap ((n : Int) + 1 - (i : Int)) = (n : Int) + 1 - (i : Int) := IntWalk.i64_in _ ⟨by omega, by omega⟩
  have mixed : Tryz.prog.follows Departure.mixedOrders = true := by kernel_rfl
  clear hN hW1 hW2 hW3 hr1 l1 l2 l3 hR hRs hRt hold hG hkk hik ho ho1 ho2 hct hcs hcl hxl hcellx hdl hGm
  go_enter Tryz.func202, Tryz.ntmps202
  go_wp2_with (first
   | (at_builtin; refine Lib.wpList_append_run _ rfl _ _ _ _ rfl _ _ rfl rfl _ _ (hrz _) ?_)
   | (at_builtin; refine wpl_copyK _ rfl _ _ 73 73 rfl _ _ rfl rfl (hcpA _ _) ?_))
  go_region_law_o (refine step_copyK rfl _ _ 73 73 rfl _ _ (by simp [Act.eval, Act.put]) (by simp [Act.eval, Act.put]) (hcpB _ _ _) ?_)
  go_wp2_with fail
  go_ret
  exact ⟨_, G, rfl, HOW.out, HGR.out, .inr (by rw [HNN.out]; rfl)⟩
/-- Where the slices of a reading lie: path, communities, raws, kinds, more, the new number. -/
structure GH where
 pa : Option Addr
 pn : Nat
 pc : Nat
 ca : Option Addr
 cn : Nat
 cc : Nat
 ra : Option Addr
 rn : Nat
 rc : Nat
 ka : Option Addr
 kn : Nat
 kc : Nat
 ma : Option Addr
 mn : Nat
 mc : Nat
 na : Option Addr
 nn : Nat
 nc : Nat
def GH.cb (h : GH) : Option Nat := Value.ownBlock (.slice h.ca h.cn h.cc)
def GH.rb (h : GH) : Option Nat := Value.ownBlock (.slice h.ra h.rn h.rc)
def GH.kb (h : GH) : Option Nat := Value.ownBlock (.slice h.ka h.kn h.kc)
/-- The blocks that a reading does not write. -/
def Qt (w : World) (gs : List Nat) (x y z : Option Nat) : Nat → Prop := fun b => b < w.heap.size ∧ b ∉ gs ∧ some b ≠ x ∧ some b ≠ y ∧ some b ≠ z
abbrev GH.qt (h : GH) (w : World) (gs : List Nat) : Nat → Prop := Qt w gs h.cb h.rb h.kb
/-- Raws of the call's own. -/
def OR (w : World) (base : Nat) (S : Nat → Prop) (A : Option Addr) (n c : Nat) (l : List RawV) : Prop :=
 ∃ css : List (List Value), css.length = l.length ∧ n = l.length ∧ w.ownsRow base 168 3 (.slice A n c) n css.flatten ∧ (∀ (i : Nat) (cs : List Value) (a : RawV), css[i]? = some cs → l[i]? = some a → rRaw w S cs a) ∧ ∀ cs ∈ css, cs.length = 3
theorem OR.len {w : World} {base n c : Nat} {S : Nat → Prop} {A : Option Addr} {l : List RawV} (h : OR w base S A n c l) : n = l.length := by obtain ⟨_, _, h, _⟩ := h; exact h
theorem OR.own {w : World} {base n c : Nat} {S : Nat → Prop} {A : Option Addr} {l : List RawV} (h : OR w base S A n c l) : ∃ css : List (List Value), w.ownsRow base 168 3 (.slice A n c) n css.flatten := by obtain ⟨css, _, _, h, _⟩ := h; exact ⟨css, h⟩
theorem OR.dl {w : World} {base n c : Nat} {S : Nat → Prop} {A : Option Addr} {l : List RawV} (h : OR w base S A n c l) (hS : ∀ b, S b → b < w.heap.size) : DL rRaw 3 w (Lo w) A n l := by
 obtain ⟨css, h1, h2, h3, h4, h5⟩ := h
 exact ⟨css, h1, h2, Rw.of_reads (Reads.of_own h3) (by omega) (fun b hb => hb), fun i cs a hi ha => rRaw_ok.keep (h4 i cs a hi ha) (Kp.sub fun b hb => hS b hb), h5⟩
theorem OR.keep {w w' : World} {base n c : Nat} {S S' : Nat → Prop} {A : Option Addr} {l : List RawV} (h : OR w base S A n c l) (hk : Kp w w' S S') (ho : ∀ k, Value.ownBlock (.slice A n c) = some k → w'.heap[k]? = w.heap[k]?) : OR w' base S' A n c l := by
 obtain ⟨css, h1, h2, h3, h4, h5⟩ := h
 exact ⟨css, h1, h2, own_keep h3 ho, fun i cs a hi ha => rRaw_ok.keep (h4 i cs a hi ha) hk, h5⟩
/-- What a reading's slices say. -/
structure GQ (w : World) (B g : Nat) (gs : List Nat) (h : GH) (path more : List Seg) (comms kinds : List Int) (raws : List RawV) (news : List UInt8) : Prop where
 path : DL rSeg 2 w (h.qt w gs) h.pa h.pn path
 more : DL rSeg 2 w (h.qt w gs) h.ma h.mn more
 comms : OU w B h.ca h.cn h.cc comms
 kinds : OI w B h.ka h.kn h.kc kinds
 raws : OR w B (h.qt w gs) h.ra h.rn h.rc raws
 news : BF w (h.qt w gs) h.na h.nn news
 nnc : h.nn ≤ h.nc
 lo : B ≤ g
 hi : g < w.heap.size
 mem : g ∈ gs
 gsl : ∀ x ∈ gs, x < w.heap.size
 sep : ∀ x ∈ gs, some x ≠ h.cb ∧ some x ≠ h.rb ∧ some x ≠ h.kb
section
variable {w w' : World} {B g : Nat} {gs : List Nat} {h : GH} {path more : List Seg} {comms kinds : List Int} {raws : List RawV} {news : List UInt8}
theorem Qt.lt {x y z : Option Nat} : ∀ b, Qt w gs x y z b → b < w.heap.size := fun _ hb => hb.1
theorem GQ.keep (Q : GQ w B g gs h path more comms kinds raws news) (hz : w.heap.size ≤ w'.heap.size) (hk : Kp w w' (h.qt w gs) (h.qt w' gs)) (h1 : ∀ k, h.cb = some k → w'.heap[k]? = w.heap[k]?) (h2 : ∀ k, h.rb = some k → w'.heap[k]? = w.heap[k]?) (h3 : ∀ k, h.kb = some k → w'.heap[k]? = w.heap[k]?) : GQ w' B g gs h path more comms kinds raws news where
 path := Q.path.keep rSeg_ok hk
 more := Q.more.keep rSeg_ok hk
 comms := ⟨Q.comms.1, own_keep Q.comms.2.1 h1, Q.comms.2.2⟩
 kinds := ⟨Q.kinds.1, own_keep Q.kinds.2 h3⟩
 raws := Q.raws.keep hk h2
 news := Q.news.keep hk
 nnc := Q.nnc
 lo := Q.lo
 hi := Nat.lt_of_lt_of_le Q.hi hz
 mem := Q.mem
 gsl := fun x hx => Nat.lt_of_lt_of_le (Q.gsl x hx) hz
 sep := Q.sep
theorem GQ.cbl (Q : GQ w B g gs h path more comms kinds raws news) : ∀ k, h.cb = some k → B ≤ k ∧ k < w.heap.size := fun k hk => Q.comms.2.1.lt k hk
theorem GQ.kbl (Q : GQ w B g gs h path more comms kinds raws news) : ∀ k, h.kb = some k → B ≤ k ∧ k < w.heap.size := fun k hk => Q.kinds.2.lt k hk
theorem GQ.rbl (Q : GQ w B g gs h path more comms kinds raws news) : ∀ k, h.rb = some k → B ≤ k ∧ k < w.heap.size := fun k hk => by
 obtain ⟨css, ho⟩ := Q.raws.own
 exact ho.lt k hk
theorem Kp.qt {x y z : Option Nat} (hz : w.heap.size ≤ w'.heap.size) (hb : ∀ b, Qt w gs x y z b → w'.heap[b]? = w.heap[b]?) : Kp w w' (Qt w gs x y z) (Qt w' gs x y z) := fun b h => ⟨⟨Nat.lt_of_lt_of_le h.1 hz, h.2⟩, hb b h⟩
/-- A call that writes nothing that was there. -/
theorem GQ.kcall (h : GH) (hb : Below w.heap.size w w') : Kp w w' (h.qt w gs) (h.qt w' gs) := Kp.qt hb.size fun b h => hb.block b h.1
theorem GQ.call (Q : GQ w B g gs h path more comms kinds raws news) (hb : Below w.heap.size w w') : GQ w' B g gs h path more comms kinds raws news :=
 Q.keep hb.size (GQ.kcall h hb) (fun k hk => hb.block k (Q.cbl k hk).2) (fun k hk => hb.block k (Q.rbl k hk).2) (fun k hk => hb.block k (Q.kbl k hk).2)
/-- A step that writes one block that is no part of the slices. -/
theorem GQ.kat {p : Nat} (h : GH) (hp : p ∈ gs) (hg : w.grownBy w' (some p)) : Kp w w' (h.qt w gs) (h.qt w' gs) := Kp.qt hg.size fun b h => hg.block b h.1 (fun e => h.2.1 (by injection e with e; rw [e]; exact hp))
theorem GQ.at_ {p : Nat} {T : TypeId} {cs : Array Value} (Q : GQ w B g gs h path more comms kinds raws news) (hb : Blk w p T cs) (hp : p ∈ gs) (t1 : 22 ≠ T) (t2 : 168 ≠ T) (t3 : 3 ≠ T) (hg : w.grownBy w' (some p)) : GQ w' B g gs h path more comms kinds raws news := by
 obtain ⟨css, ho⟩ := Q.raws.own
 have k1 : h.cb ≠ some p := own_blk_ne Q.comms.2.1 hb t1
 have k2 : h.rb ≠ some p := own_blk_ne ho hb t2
 have k3 : h.kb ≠ some p := own_blk_ne Q.kinds.2 hb t3
 exact Q.keep hg.size (GQ.kat h hp hg) (fun k hk => hg.block k (Q.cbl k hk).2 (fun e => k1 (hk.trans e))) (fun k hk => hg.block k (Q.rbl k hk).2 (fun e => k2 (hk.trans e))) (fun k hk => hg.block k (Q.kbl k hk).2 (fun e => k3 (hk.trans e)))
/-- A block more that is no part of the slices; and one less. -/
theorem GQ.kadd {q : Nat} (h : GH) (hb : Below w.heap.size w w') (hq : w.heap.size ≤ q) : Kp w w' (h.qt w gs) (h.qt w' (q :: gs)) := fun b hb' => ⟨⟨Nat.lt_of_lt_of_le hb'.1 hb.size, fun hm => by
 rcases List.mem_cons.1 hm with rfl | hm
 ·have := hb'.1; omega
 ·exact hb'.2.1 hm, hb'.2.2⟩, hb.block b hb'.1⟩
theorem GQ.kdrop {q : Nat} (w : World) (h : GH) : Kp w w (h.qt w (q :: gs)) (h.qt w gs) := Kp.sub fun b hb => ⟨hb.1, fun hm => hb.2.1 (List.mem_cons_of_mem _ hm), hb.2.2⟩
theorem GQ.add {q : Nat} (Q : GQ w B g gs h path more comms kinds raws news) (hb : Below w.heap.size w w') (hq : w.heap.size ≤ q) (hq' : q < w'.heap.size) : GQ w' B g (q :: gs) h path more comms kinds raws news where
 path := Q.path.keep rSeg_ok (GQ.kadd h hb hq)
 more := Q.more.keep rSeg_ok (GQ.kadd h hb hq)
 comms := Q.comms.call hb
 kinds := Q.kinds.below hb
 raws := Q.raws.keep (GQ.kadd h hb hq) (fun k hk => hb.block k (Q.rbl k hk).2)
 news := Q.news.keep (GQ.kadd h hb hq)
 nnc := Q.nnc
 lo := Q.lo
 hi := Nat.lt_of_lt_of_le Q.hi hb.size
 mem := List.mem_cons_of_mem _ Q.mem
 gsl := fun x hx => by
  rcases List.mem_cons.1 hx with rfl | hx
  ·exact hq'
  ·exact Nat.lt_of_lt_of_le (Q.gsl x hx) hb.size
 sep := fun x hx => by
  rcases List.mem_cons.1 hx with rfl | hx
  ·exact ⟨fun e => by have := (Q.cbl x e.symm).2; omega, fun e => by have := (Q.rbl x e.symm).2; omega, fun e => by have := (Q.kbl x e.symm).2; omega⟩
  ·exact Q.sep x hx
theorem GQ.drop {q : Nat} (Q : GQ w B g (q :: gs) h path more comms kinds raws news) (hm : g ∈ gs) : GQ w B g gs h path more comms kinds raws news where
 path := Q.path.keep rSeg_ok (GQ.kdrop w h)
 more := Q.more.keep rSeg_ok (GQ.kdrop w h)
 comms := Q.comms
 kinds := Q.kinds
 raws := Q.raws.keep (GQ.kdrop w h) (fun k hk => rfl)
 news := Q.news.keep (GQ.kdrop w h)
 nnc := Q.nnc
 lo := Q.lo
 hi := Q.hi
 mem := hm
 gsl := fun x hx => Q.gsl x (List.mem_cons_of_mem _ hx)
 sep := fun x hx => Q.sep x (List.mem_cons_of_mem _ hx)
/-- One kind more. -/
theorem GQ.kinds_push {A2 : Option Addr} {n2 c2 : Nat} {l : List Int} (Q : GQ w B g gs h path more comms kinds raws news) (ho : OI w' B A2 n2 c2 l) (hg : w.grownBy w' (Value.ownBlock (.slice h.ka h.kn h.kc))) (hat : Value.ownBlock (.slice A2 n2 c2) = Value.ownBlock (.slice h.ka h.kn h.kc) ∨ Value.ownBlock (.slice A2 n2 c2) = some w.heap.size) :
  GQ w' B g gs { h with ka := A2, kn := n2, kc := c2 } path more comms l raws news ∧ ∀ ks, Kp w w' (h.qt w ks) (GH.qt { h with ka := A2, kn := n2, kc := c2 } w' ks) := by
 have hk0 : ∀ ks, Kp w w' (h.qt w ks) (GH.qt { h with ka := A2, kn := n2, kc := c2 } w' ks) := fun ks b hb => by
  refine ⟨⟨Nat.lt_of_lt_of_le hb.1 hg.size, hb.2.1, hb.2.2.1, hb.2.2.2.1, ?_⟩, hg.block b hb.1 hb.2.2.2.2⟩
  intro e
  rcases hat with h1 | h1
  ·exact hb.2.2.2.2 (e.trans h1)
  ·have := e.trans h1
   injection this with this
   have := hb.1
   omega
 have hk := hk0 gs
 obtain ⟨css, hor⟩ := Q.raws.own
 have hc : w'.ownsRow B 22 1 (.slice h.ca h.cn h.cc) h.cn (un comms) := own_own Q.comms.2.1 Q.kinds.2 (by decide) hg
 refine ⟨⟨Q.path.keep rSeg_ok hk, Q.more.keep rSeg_ok hk, ⟨Q.comms.1, hc, Q.comms.2.2⟩, ho, Q.raws.keep hk (fun k hk => ?_), Q.news.keep hk, Q.nnc, Q.lo, Nat.lt_of_lt_of_le Q.hi hg.size, Q.mem, fun x hx => Nat.lt_of_lt_of_le (Q.gsl x hx) hg.size, fun x hx => ⟨(Q.sep x hx).1, (Q.sep x hx).2.1, (fun e => by
  rcases hat with h1 | h1
  ·exact (Q.sep x hx).2.2 (e.trans h1)
  ·have e2 := e.trans h1
   injection e2 with e2
   have := Q.gsl x hx
   omega)⟩⟩, hk0⟩
 have hlt := Q.rbl k hk
 refine hg.block k hlt.2 ?_
 intro e
 have hk' : Value.ownBlock (.slice h.ra h.rn h.rc) = some k := hk
 rcases hor.2 with ⟨hv, _⟩ | ⟨g1, cap, cur, hv, _, hh, _⟩
 ·rw [hv] at hk'; simp [Value.ownBlock] at hk'
 ·rw [hv] at hk'
  simp [Value.ownBlock] at hk'
  subst hk'
  exact own_blk_ne Q.kinds.2 (show Blk w g1 168 cur from hh) (by decide) e.symm
/-- Numbers more. -/
theorem GQ.comms_push {A2 : Option Addr} {n2 c2 : Nat} {l : List Int} (Q : GQ w B g gs h path more comms kinds raws news) (ho : OU w' B A2 n2 c2 l) (hg : w.grownBy w' (Value.ownBlock (.slice h.ca h.cn h.cc))) (hat : Value.ownBlock (.slice A2 n2 c2) = Value.ownBlock (.slice h.ca h.cn h.cc) ∨ Value.ownBlock (.slice A2 n2 c2) = some w.heap.size) :
  GQ w' B g gs { h with ca := A2, cn := n2, cc := c2 } path more l kinds raws news ∧ ∀ ks, Kp w w' (h.qt w ks) (GH.qt { h with ca := A2, cn := n2, cc := c2 } w' ks) := by
 have hk0 : ∀ ks, Kp w w' (h.qt w ks) (GH.qt { h with ca := A2, cn := n2, cc := c2 } w' ks) := fun ks b hb => by
  refine ⟨⟨Nat.lt_of_lt_of_le hb.1 hg.size, hb.2.1, ?_, hb.2.2.2.1, hb.2.2.2.2⟩, hg.block b hb.1 hb.2.2.1⟩
  intro e
  rcases hat with h1 | h1
  ·exact hb.2.2.1 (e.trans h1)
  ·have := e.trans h1
   injection this with this
   have := hb.1
   omega
 have hk := hk0 gs
 obtain ⟨css, hor⟩ := Q.raws.own
 have hc : w'.ownsRow B 3 1 (.slice h.ka h.kn h.kc) h.kn (iv kinds) := own_own Q.kinds.2 Q.comms.2.1 (by decide) hg
 refine ⟨⟨Q.path.keep rSeg_ok hk, Q.more.keep rSeg_ok hk, ho, ⟨Q.kinds.1, hc⟩, Q.raws.keep hk (fun k hk => ?_), Q.news.keep hk, Q.nnc, Q.lo, Nat.lt_of_lt_of_le Q.hi hg.size, Q.mem, fun x hx => Nat.lt_of_lt_of_le (Q.gsl x hx) hg.size, fun x hx => ⟨(fun e => by
  rcases hat with h1 | h1
  ·exact (Q.sep x hx).1 (e.trans h1)
  ·have e2 := e.trans h1
   injection e2 with e2
   have := Q.gsl x hx
   omega), (Q.sep x hx).2.1, (Q.sep x hx).2.2⟩⟩, hk0⟩
 have hlt := Q.rbl k hk
 refine hg.block k hlt.2 ?_
 intro e
 have hk' : Value.ownBlock (.slice h.ra h.rn h.rc) = some k := hk
 rcases hor.2 with ⟨hv, _⟩ | ⟨g1, cap, cur, hv, _, hh, _⟩
 ·rw [hv] at hk'; simp [Value.ownBlock] at hk'
 ·rw [hv] at hk'
  simp [Value.ownBlock] at hk'
  subst hk'
  exact own_blk_ne Q.comms.2.1 (show Blk w g1 168 cur from hh) (by decide) e.symm
/-- Other paths. -/
theorem GQ.setPath {A : Option Addr} {n c : Nat} {l : List Seg} (Q : GQ w B g gs h path more comms kinds raws news) (hd : DL rSeg 2 w (h.qt w gs) A n l) : GQ w B g gs { h with pa := A, pn := n, pc := c } l more comms kinds raws news := ⟨hd, Q.more, Q.comms, Q.kinds, Q.raws, Q.news, Q.nnc, Q.lo, Q.hi, Q.mem, Q.gsl, Q.sep⟩
theorem GQ.setMore {A : Option Addr} {n c : Nat} {l : List Seg} (Q : GQ w B g gs h path more comms kinds raws news) (hd : DL rSeg 2 w (h.qt w gs) A n l) : GQ w B g gs { h with ma := A, mn := n, mc := c } path l comms kinds raws news := ⟨Q.path, hd, Q.comms, Q.kinds, Q.raws, Q.news, Q.nnc, Q.lo, Q.hi, Q.mem, Q.gsl, Q.sep⟩
theorem GQ.setNews {A : Option Addr} {n c : Nat} {l : List UInt8} (Q : GQ w B g gs h path more comms kinds raws news) (hd : BF w (h.qt w gs) A n l) (hc : n ≤ c) : GQ w B g gs { h with na := A, nn := n, nc := c } path more comms kinds raws l := ⟨Q.path, Q.more, Q.comms, Q.kinds, Q.raws, hd, hc, Q.lo, Q.hi, Q.mem, Q.gsl, Q.sep⟩
/-- What goes on for one block goes on for more. -/
theorem Kp.wide {h' : GH} (hk : Kp w w' (h.qt w [g]) (h'.qt w' [g])) (hm : g ∈ gs) : Kp w w' (h.qt w gs) (h'.qt w' gs) := fun b hb => by
 have h1 := hk b ⟨hb.1, fun e => hb.2.1 (by rw [List.mem_singleton.1 e]; exact hm), hb.2.2⟩
 exact ⟨⟨h1.1.1, hb.2.1, h1.1.2.2⟩, h1.2⟩
/-- Blocks beside the reading. -/
theorem GQ.side (Q : GQ w B g gs h path more comms kinds raws news) {b : Nat} (hb : b ∈ gs) (hne : b ≠ g) : h.qt w [g] b := ⟨Q.gsl b hb, fun e => hne (List.mem_singleton.1 e), Q.sep b hb⟩
/-- What is new lies where a reading does not write. -/
theorem GQ.fresh (Q : GQ w B g gs h path more comms kinds raws news) (hz : w.heap.size ≤ w'.heap.size) : ∀ b, w.heap.size ≤ b → b < w'.heap.size → h.qt w' gs b := fun b h1 h2 => by
 refine ⟨h2, ?_, ?_, ?_, ?_⟩
 ·intro hm; have := Q.gsl b hm; omega
 ·intro e; have := (Q.cbl b e.symm).2; omega
 ·intro e; have := (Q.rbl b e.symm).2; omega
 ·intro e; have := (Q.kbl b e.symm).2; omega
end
/-- A path of the call's own, by its own footprint. -/
theorem OP.dlF {w : World} {base n c : Nat} {A : Option Addr} {L : List (Seg × Hd)} {S : Nat → Prop} (h : OP w base A n c L) (hS : ∀ b, base ≤ b → b < w.heap.size → S b) : DL rSeg 2 w S A n (L.map (·.1)) := by
 refine ⟨L.map segC, by simp, by rw [List.length_map]; exact h.1, ?_, fun i cs a hi ha => ?_, fun cs hcs => ?_⟩
 ·have e : (L.map segC).flatten = segsC L := by simp [segsC, List.flatMap]
  rw [e]
  refine ⟨h.2.1.1, fun hn => ?_⟩
  obtain ⟨g, cap, hv, hg, hlt⟩ := h.2.1.form hn
  have hA : A = some ⟨g, 0, none⟩ := by injection hv
  subst hA
  exact ⟨g, 0, rfl, hS g hg hlt, fun j u hu => by have := h.2.1.cells (g := g) rfl j u hu; rwa [addr_add] at this⟩
 ·rw [List.getElem?_map] at hi ha
  obtain ⟨y, hy, rfl⟩ := Option.map_eq_some_iff.1 hi
  rw [hy] at ha
  simp only [Option.map_some, Option.some.injEq] at ha
  subst ha
  have hm := h.2.2.1 y (List.mem_of_getElem? hy)
  refine ⟨y.2.1, y.2.2.1, y.2.2.2, rfl, ⟨hm.1, ⟨by rw [un_length]; have := hm.1; omega, fun hn => ?_⟩, hm.2.2⟩, own_cap hm.2.1⟩
  obtain ⟨g, cap, hv, hg, hlt⟩ := hm.2.1.form hn
  have hA : y.2.1 = some ⟨g, 0, none⟩ := by injection hv
  rw [hA] at hm ⊢
  exact ⟨g, 0, rfl, hS g hg hlt, fun j u hu => by have := hm.2.1.cells (g := g) rfl j u hu; rwa [addr_add] at this⟩
 ·obtain ⟨y, _, rfl⟩ := List.mem_map.1 hcs
  rfl
theorem BF.ownF {w : World} {T base n c : Nat} {A : Option Addr} {l : List UInt8} {S : Nat → Prop} (h : OB w T base A n c l) (hS : ∀ b, base ≤ b → b < w.heap.size → S b) : BF w S A n l := by
 refine ⟨h.1, (bv_length l).trans (by have := h.1; omega), fun hn => ?_⟩
 obtain ⟨g, cap, hv, hg, hlt⟩ := h.2.form hn
 have hA : A = some ⟨g, 0, none⟩ := by injection hv
 subst hA
 exact ⟨g, 0, rfl, hS g hg hlt, fun j u hu => by have := h.2.cells (g := g) rfl j u hu; rwa [addr_add] at this⟩
theorem rRaw_cells {w : World} {S : Nat → Prop} {A : Option Addr} {n c : Nat} {k : Int} {v : List UInt8} (h : BF w S A n v) (hc : n ≤ c) (hk : 0 ≤ k ∧ k ≤ 255) : rRaw w S [.int .i64 224, .int .i64 k, .slice A n c] (224, k, v) :=
 ⟨A, n, c, rfl, h, hc, rfl, by show (Lit.int .i64 k).wf = true; simp [Lit.wf, IntKind.min, IntKind.max, IntKind.signed, IntKind.bits]; omega⟩
theorem take_flat3 {css : List (List Value)} {cs : List Value} (h : ∀ c ∈ css, c.length = 3) (i : Nat) : css.flatten.take (i * 3) ++ cs ++ css.flatten.drop (i * 3) = (css.take i ++ [cs] ++ css.drop i).flatten := by
 rw [flat_take h, flat_drop h]
 simp
/-- A raw more, where it belongs. -/
theorem GQ.raws_ins {w w' : World} {B g : Nat} {gs : List Nat} {h : GH} {path more : List Seg} {comms kinds : List Int} {raws : List RawV} {news : List UInt8} {css : List (List Value)} {cs : List Value} {x : RawV} {A2 : Option Addr} {c2 i : Nat} (Q : GQ w B g gs h path more comms kinds raws news)
  (h1 : css.length = raws.length) (h4 : ∀ (i : Nat) (cs : List Value) (a : RawV), css[i]? = some cs → raws[i]? = some a → rRaw w (h.qt w gs) cs a) (h5 : ∀ cs ∈ css, cs.length = 3) (h3 : w.ownsRow B 168 3 (.slice h.ra h.rn h.rc) h.rn css.flatten)
  (hx : rRaw w (h.qt w gs) cs x) (hi : i ≤ raws.length) (ho : w'.ownsRow B 168 3 (.slice A2 (h.rn + 1) c2) (h.rn + 1) (css.flatten.take (i * 3) ++ cs ++ css.flatten.drop (i * 3)))
  (hg : w.grownBy w' (Value.ownBlock (.slice h.ra h.rn h.rc))) (hat : Value.ownBlock (.slice A2 (h.rn + 1) c2) = Value.ownBlock (.slice h.ra h.rn h.rc) ∨ Value.ownBlock (.slice A2 (h.rn + 1) c2) = some w.heap.size) :
  GQ w' B g gs { h with ra := A2, rn := h.rn + 1, rc := c2 } path more comms kinds (raws.take i ++ [x] ++ raws.drop i) news ∧ ∀ ks, Kp w w' (h.qt w ks) (GH.qt { h with ra := A2, rn := h.rn + 1, rc := c2 } w' ks) := by
 have hk0 : ∀ ks, Kp w w' (h.qt w ks) (GH.qt { h with ra := A2, rn := h.rn + 1, rc := c2 } w' ks) := fun ks b hb => by
  refine ⟨⟨Nat.lt_of_lt_of_le hb.1 hg.size, hb.2.1, hb.2.2.1, ?_, hb.2.2.2.2⟩, hg.block b hb.1 hb.2.2.2.1⟩
  intro e
  rcases hat with h1 | h1
  ·exact hb.2.2.2.1 (e.trans h1)
  ·have := e.trans h1
   injection this with this
   have := hb.1
   omega
 have hk := hk0 gs
 have hn := Q.raws.len
 have hcl := rRaw_ok.len hx
 have hc : w'.ownsRow B 22 1 (.slice h.ca h.cn h.cc) h.cn (un comms) := own_own Q.comms.2.1 h3 (by decide) hg
 have hki : w'.ownsRow B 3 1 (.slice h.ka h.kn h.kc) h.kn (iv kinds) := own_own Q.kinds.2 h3 (by decide) hg
 refine ⟨⟨Q.path.keep rSeg_ok hk, Q.more.keep rSeg_ok hk, ⟨Q.comms.1, hc, Q.comms.2.2⟩, ⟨Q.kinds.1, hki⟩, ⟨css.take i ++ [cs] ++ css.drop i, ?_, ?_, ?_, fun j ds a hj ha => ?_, fun ds hds => ?_⟩, Q.news.keep hk, Q.nnc, Q.lo, Nat.lt_of_lt_of_le Q.hi hg.size, Q.mem, fun x hx => Nat.lt_of_lt_of_le (Q.gsl x hx) hg.size, fun x hx => ⟨(Q.sep x hx).1, (fun e => by
  rcases hat with h1 | h1
  ·exact (Q.sep x hx).2.1 (e.trans h1)
  ·have e2 := e.trans h1
   injection e2 with e2
   have := Q.gsl x hx
   omega), (Q.sep x hx).2.2⟩⟩, hk0⟩
 ·simp [h1]
 ·simp; omega
 ·rw [take_flat3 h5] at ho
  exact ho
 ·refine rRaw_ok.keep (S := h.qt w gs) ?_ hk
  rw [List.append_assoc] at hj ha
  have hti : (css.take i).length = i := by rw [List.length_take]; omega
  have htr : (raws.take i).length = i := by rw [List.length_take]; omega
  rcases Nat.lt_or_ge j i with hlt | hge
  ·rw [List.getElem?_append_left (by omega), List.getElem?_take_of_lt hlt] at hj ha
   exact h4 j ds a hj ha
  ·rw [List.getElem?_append_right (by omega), hti] at hj
   rw [List.getElem?_append_right (by omega), htr] at ha
   rcases Nat.eq_zero_or_pos (j - i) with h0 | h0
   ·rw [h0] at hj ha
    simp at hj ha
    subst hj ha
    exact hx
   ·obtain ⟨m, hm⟩ : ∃ m, j - i = m + 1 := ⟨j - i - 1, by omega⟩
    rw [hm] at hj ha
    simp only [List.singleton_append, List.getElem?_cons_succ, List.getElem?_drop] at hj ha
    exact h4 _ ds a hj ha
 ·simp only [List.mem_append, List.mem_singleton] at hds
  rcases hds with (hds | rfl) | hds
  ·exact h5 ds (List.mem_of_mem_take hds)
  ·exact hcl
  ·exact h5 ds (List.mem_of_mem_drop hds)
set_option maxRecDepth 100000 in
theorem and192_fin : ∀ V : Fin 256, V.val &&& 192 = V.val / 64 % 4 * 64 := by decide
set_option maxRecDepth 100000 in
theorem and32_fin : ∀ V : Fin 256, V.val &&& 32 = V.val / 32 % 2 * 32 := by decide
set_option maxRecDepth 100000 in
theorem and128_fin : ∀ V : Fin 256, V.val &&& 128 = V.val / 128 % 2 * 128 := by decide
set_option maxRecDepth 100000 in
theorem and64_fin : ∀ V : Fin 256, V.val &&& 64 = V.val / 64 % 2 * 64 := by decide
theorem andK {V : Int} (h0 : 0 ≤ V) (h : V ≤ 255) : bits .and .i64 V 192 = V / 64 % 4 * 64 ∧ bits .and .i64 V 32 = V / 32 % 2 * 32 ∧ bits .and .i64 V 128 = V / 128 % 2 * 128 ∧ bits .and .i64 V 64 = V / 64 % 2 * 64 := by
 obtain ⟨N, rfl⟩ := Int.eq_ofNat_of_zero_le h0
 have hN : N < 256 := by omega
 have a1 := i64_and_nat N 192 (by omega) (by omega)
 have a2 := i64_and_nat N 32 (by omega) (by omega)
 have a3 := i64_and_nat N 128 (by omega) (by omega)
 have a4 := i64_and_nat N 64 (by omega) (by omega)
 rw [and192_fin ⟨N, hN⟩, show ((192 : Nat) : Int) = 192 from rfl] at a1
 rw [and32_fin ⟨N, hN⟩, show ((32 : Nat) : Int) = 32 from rfl] at a2
 rw [and128_fin ⟨N, hN⟩, show ((128 : Nat) : Int) = 128 from rfl] at a3
 rw [and64_fin ⟨N, hN⟩, show ((64 : Nat) : Int) = 64 from rfl] at a4
 exact ⟨by rw [a1]; simp, by rw [a2]; simp, by rw [a3]; simp, by rw [a4]; simp⟩
theorem flt_store {w : World} {q : Nat} {a b c x y z : Value} (h : Blk w q 88 #[a, b, c]) : Blk (((w.setCell ⟨q, 0, none⟩ x).setCell ⟨q, 1, none⟩ y).setCell ⟨q, 2, none⟩ z) q 88 #[x, y, z] := by
 have hE := ((h.set_ 0 x).set_ 1 y).set_ 2 z
 simp only [List.setIfInBounds_toArray, List.set_cons_succ, List.set_cons_zero] at hE
 exact hE
theorem flt_below {a w : World} {B q : Nat} {x y z : Value} (h : Below B a w) (hq : B ≤ q) : Below B a (((w.setCell ⟨q, 0, none⟩ x).setCell ⟨q, 1, none⟩ y).setCell ⟨q, 2, none⟩ z) :=
 ((h.setCell (p := ⟨q, 0, none⟩) hq x).setCell (p := ⟨q, 1, none⟩) hq y).setCell (p := ⟨q, 2, none⟩) hq z
end Go.Proofs.YthgjknmfghjioaaGreatDoor
