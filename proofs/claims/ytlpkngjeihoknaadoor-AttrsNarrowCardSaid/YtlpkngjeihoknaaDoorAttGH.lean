/- Joined texts: Walks of layer 4 (attributes): one attribute more; Walks of layer 4 (attributes): their bytes. Conditions: those of the theorems. -/
import Derived.Test.YtlpkngjeihoknaaDoorProg
import Derived.WalkKit
import Derived.WalkSpells
import Derived.WalkLawsBesides
import Derived.Outline
import Derived.Deep.QuietTactic
import Derived.BigQuiet
import Derived.Handy
import Derived.Lib.Hide
import Derived.Laws.Cover4
import Derived.OrdersHeld
import Derived.Deep.RegionHeld
import Derived.Deep.DeepCutAuto
import Derived.Deep.CutBlock
import Derived.Test.YtlpkngjeihoknaaDoorAttF
namespace Go.Proofs.YtlpkngjeihoknaaDoor
open Go.RowKit
set_option linter.unusedSimpArgs false
set_option linter.unusedVariables false
theorem LookTab.keepB {w w' : World} {B : Nat} (h : LookTab w) (hb : Below B w w') (hB : 0 < B) : LookTab w' := fun k hk => by
  have h1 := h k hk
  exact ⟨(hb.cell (p := ⟨0, k * 3, none⟩) hB).trans h1.1, (hb.cell (p := ⟨0, k * 3 + 1, none⟩) hB).trans h1.2.1, (hb.cell (p := ⟨0, k * 3 + 2, none⟩) hB).trans h1.2.2⟩
/-- The bytes on their way, in a cell; their row lies from B on. -/
def PO (w : World) (go B : Nat) (acc : List UInt8) : Prop := ∃ (A : Option Addr) (n c : Nat), Blk w go 40 #[.slice A n c] ∧ OB w 5 B A n c acc
section
variable {w w' : World} {go B : Nat} {acc : List UInt8}
theorem PO.call (h : PO w go B acc) (hb : Below w.heap.size w w') : PO w' go B acc := by
  obtain ⟨A, n, c, h1, h2⟩ := h
  exact ⟨A, n, c, h1.below hb h1.lt, h2.below hb⟩
theorem PO.lt (h : PO w go B acc) : go < w.heap.size := by
  obtain ⟨A, n, c, h1, h2⟩ := h
  exact h1.lt
theorem PO.stored {n c : Nat} {A : Option Addr} (hB : Blk w go 40 #[.slice A n c]) {A2 : Option Addr} {n2 c2 : Nat} (ho : OB w 5 B A2 n2 c2 acc) : PO (w.setCell ⟨go, 0, none⟩ (.slice A2 n2 c2)) go B acc := by
  have h1 := hB.set_ 0 (.slice A2 n2 c2)
  simp only [List.setIfInBounds_toArray, List.set_cons_zero] at h1
  have hg := only_setCell (World.grownBy.refl w (some go)) (p := ⟨go, 0, none⟩) (.inl rfl) (.slice A2 n2 c2)
  exact ⟨A2, n2, c2, h1, ho.1, own_at ho.2 hB (by decide) hg⟩
/-- Another row, that was there. -/
theorem OB.sm {base n c : Nat} {A : Option Addr} {l : List UInt8} {cs : Array Value} (h : OB w 5 base A n c l) (hs : Sm B [go] w w') (hB : w.heap.size ≤ B) (hg : Blk w go 40 cs) : OB w' 5 base A n c l := by
  refine ⟨h.1, own_keep h.2 fun k hk => ?_⟩
  have hlt := (h.2.lt k hk).2
  refine hs.block k (by omega) ?_
  intro hm
  simp at hm
  subst hm
  exact own_blk_ne h.2 hg (by decide) hk
end
/-- What a put leaves. -/
def RetPO (w : World) (go B : Nat) (acc : List UInt8) (e : Ending) (w' : World) : Prop := e = .returned (.tuple #[]) ∧ PO w' go B acc ∧ Sm B [go] w w'
set_option maxHeartbeats 8000000 in
set_option maxRecDepth 100000 in
theorem attPut1 (is : Bool) (kind : Nat) (fl : Int) (A : Option Addr) (n c : Nat) (v : List UInt8) (w : World) (go B : Nat) (acc : List UInt8) (hk : kind < 19) (hfl : fl = 64 ∨ fl = 128 ∨ fl = 192 ∨ fl = 224) (hfe : ((lookAt kind).1 : Int) = fl) (hP : PO w go B acc) (hBw : B ≤ w.heap.size) (h : BS w w.heap.size A n v) (hv : v.length ≤ 60000) (ha : acc.length ≤ 10000000) (ht : LookTab w) (hgo : 0 < go) (hgB : 0 < B) :
    Calls Tryd.prog 94 #[.bool is, .int .i64 (kind : Int), .slice A n c, .pointer (some ⟨go, 0, none⟩)] w (RetPO w go B (acc ++ if is = true then attrB fl (kind : Int) v else [])) := by
  cases is
  · go_enter Tryd.func94, Tryd.ntmps94
    go_wp2_with fail
    go_returns
    exact ⟨rfl, by simpa using hP, Sm.refl _ _ _⟩
  obtain ⟨A0, n0, c0, hB, hO⟩ := hP
  have hgl := hB.lt
  have c0t := (ht kind hk).1
  rw [hfe] at c0t
  have hk19 : (kind : Int) < 19 := by omega
  have hk0 : (0 : Int) ≤ (kind : Int) := by omega
  have HW := Lib.hid (show ∀ w', BS w' w'.heap.size A n v → Calls Tryd.prog 95 #[.int .i64 fl, .int .i64 (kind : Int), .slice A n c] w' (RetB w' 5 (attrB fl (kind : Int) v)) from fun w' h => attWhole fl (kind : Int) A n c v w' h hfl (by omega) (by omega) hv)
  have HL := Lib.hid (show acc.length + (attrB fl (kind : Int) v).length ≤ 140737488355328 by have := attrB_len fl (kind : Int) v; omega)
  obtain ⟨val, hval⟩ : ∃ val, attrB fl (kind : Int) v = val := ⟨_, rfl⟩
  rw [hval] at HW HL
  have HV := Lib.hid hval
  have hBd : Blk w.drew go 40 #[.slice A0 n0 c0] := hB
  have hOd : OB w.drew 5 B A0 n0 c0 acc := hO
  have hd : BS w.drew w.drew.heap.size A n v := h
  have q0 := hBd.cell 0
  have hgd : go < w.drew.heap.size := hgl
  have hBd2 : B ≤ w.drew.heap.size := hBw
  have hct : w.drew.cell? ⟨0, kind * 3, none⟩ = some (.int .i64 fl) := c0t
  clear hval hfe hfl
  go_enter Tryd.func94, Tryd.ntmps94
  go_upto_region 1 with fail
  refine wp_region_held_drew (S := (fun w' => w'.cell? ⟨0, kind * 3, none⟩ = some (.int .i64 fl))) (by kernel_rfl) ?_ (fun hHeld => ?_)
  · first | exact hct | exact ct5 | exact ct6 | exact ct7
  refine wpAnyH_take (i := 1) (v := ?pav1) rfl (by kernel_rfl) (by kernel_rfl) (by kernel_rfl) (by intro _ _ _ h; exact h) (Or.inl ⟨by rfl, ?pahy1⟩) (by assumption) ?parest1
  case pahy1 => (intro w hSw; (try dsimp only at hSw); go_simp; try with_reducible rfl)
  try simp only [Act.put, List.getElem_toArray, List.getElem_cons_succ, List.getElem_cons_zero, List.setIfInBounds_toArray, List.set_cons_zero, List.set_cons_succ]
  refine wpAnyH_take (i := 2) (v := ?pav2) rfl (by kernel_rfl) (by kernel_rfl) (by kernel_rfl) (by intro _ _ _ h; exact h) (Or.inl ⟨by rfl, ?pahy2⟩) (by assumption) ?parest2
  case pahy2 => (intro w hSw; (try dsimp only at hSw); go_simp; try with_reducible rfl)
  try simp only [Act.put, List.getElem_toArray, List.getElem_cons_succ, List.getElem_cons_zero, List.setIfInBounds_toArray, List.set_cons_zero, List.set_cons_succ]
  refine wpAnyH_take (i := 3) (v := ?pav3) rfl (by kernel_rfl) (by kernel_rfl) (by kernel_rfl) (by intro _ _ _ h; exact h) (Or.inl ⟨by rfl, ?pahy3⟩) (by assumption) ?parest3
  case pahy3 => (intro w hSw; (try dsimp only at hSw); go_simp; try with_reducible rfl)
  try simp only [Act.put, List.getElem_toArray, List.getElem_cons_succ, List.getElem_cons_zero, List.setIfInBounds_toArray, List.set_cons_zero, List.set_cons_succ]
  refine wpAnyH_take (i := 4) (v := ?pav4) rfl (by kernel_rfl) (by kernel_rfl) (by kernel_rfl) (by intro _ _ _ h; exact h) (Or.inl ⟨by rfl, ?pahy4⟩) (by assumption) ?parest4
  case pahy4 => (intro w hSw; (try dsimp only at hSw); go_simp; try with_reducible rfl)
  try simp only [Act.put, List.getElem_toArray, List.getElem_cons_succ, List.getElem_cons_zero, List.setIfInBounds_toArray, List.set_cons_zero, List.set_cons_succ]
  refine wpAnyH_take (i := 5) (v := ?pav5) rfl (by kernel_rfl) (by kernel_rfl) (by kernel_rfl) (by intro _ _ _ h; exact h) (Or.inl ⟨by rfl, ?pahy5⟩) (by assumption) ?parest5
  case pahy5 => (intro w hSw; (try dsimp only at hSw); go_simp; try with_reducible rfl)
  try simp only [Act.put, List.getElem_toArray, List.getElem_cons_succ, List.getElem_cons_zero, List.setIfInBounds_toArray, List.set_cons_zero, List.set_cons_succ]
  refine wpAnyH_take (i := 6) (v := ?pav6) rfl (by kernel_rfl) (by kernel_rfl) (by kernel_rfl) (by intro _ _ _ h; exact h) (Or.inl ⟨by rfl, ?pahy6⟩) (by assumption) ?parest6
  case pahy6 => (intro w hSw; (try dsimp only at hSw); go_simp; try with_reducible rfl)
  try simp only [Act.put, List.getElem_toArray, List.getElem_cons_succ, List.getElem_cons_zero, List.setIfInBounds_toArray, List.set_cons_zero, List.set_cons_succ]
  refine wpAnyH_ready (rs := [0, 7]) (by kernel_rfl) (by simp) ?_
  refine AllReadyH.cons rfl (fun K hK => ?_) (AllReadyH.cons rfl (fun K hK => ?_) AllReadyH.nil)
  · skip
    go_simp
    go_wp2_with (fail)
    refine hK.out _ _ (by first | exact hct | exact ct5 | exact ct6 | exact ct7) (fun hHeld => ?_)
    clear hK K
    refine wpAnyH_ready (rs := [7]) (by kernel_rfl) (by simp) ?_
    refine AllReadyH.cons rfl (fun K hK => ?_) AllReadyH.nil
    go_simp
    go_wp2_with ((go_at_call 95; refine (HW.out _ hd).mono ?_; rintro _ w5 ⟨A5, n5, c5, rfl, o5, b5⟩; have ct5 := (b5.cell (p := ⟨0, kind * 3, none⟩) (Nat.lt_trans hgo hgd)).trans hct; have hB5 := hBd.below b5 hgd; have q05 := hB5.cell 0; have hO5 := hOd.below b5; have hz5 := b5.size))
    refine hK.out _ _ (by first | exact hct | exact ct5 | exact ct6 | exact ct7) (fun hHeld => ?_)
    clear hK K
    refine wpAnyH_ready (rs := [8]) (by kernel_rfl) (by simp) ?_
    refine AllReadyH.cons rfl (fun K hK => ?_) AllReadyH.nil
    refine step_app rfl (.tmp 8) (.tmp 15) _ rfl 5 Tryd.underlying40 u8info B A0 n0 c0 acc (by rfl) hO5 w5.heap.size A5 n5 c5 val (by rfl) o5.bs HL.out (Nat.le_trans hBd2 hz5) ?_; intro A6 n6 c6 w6 o6 b6 g6; have ct6 := (b6.cell (p := ⟨0, kind * 3, none⟩) hgB).trans ct5; have hB6 := hB5.grown g6 (by intro e; first | exact own_blk_ne hO5.2 hB5 (by decide) e | exact own_blk_ne hO5.2 hB5 (by decide) e.symm); have f6 := hB6.frozen 0; have q06 := hB6.cell 0; have ct7 := (((Below.refl go w6).setCell (p := ⟨go, 0, none⟩) (Nat.le_refl _) (.slice A6 n6 c6)).cell (p := ⟨0, kind * 3, none⟩) hgo).trans ct6
    refine hK.out _ _ ?_ (fun hHeld => ?_)
    · try dsimp only
      first | exact hct | exact ct5 | exact ct6 | exact ct7
    clear hK K
    refine wpAnyH_ready (rs := [9]) (by kernel_rfl) (by simp) ?_
    refine AllReadyH.cons rfl (fun K hK => ?_) AllReadyH.nil
    go_simp
    go_wp2_with (fail)
    refine hK.out _ _ ?_ (fun hHeld => ?_)
    · try dsimp only
      first | exact hct | exact ct5 | exact ct6 | exact ct7
    clear hK K
    refine wpAnyH_done (by kernel_rfl) ?_ _
    go_wp2_with fail
    go_returns
    refine ⟨rfl, ?_, ?_⟩
    · rw [HV.out]
      exact PO.stored hB6 o6
    · exact (((Sm.of_below ((Below.refl w.heap.size w).drew) hBw).below b5 hBd2).below b6 (Nat.le_refl _)).setCell (p := ⟨go, 0, none⟩) (.inr (by simp)) _
  · skip
    go_simp
    go_wp2_with ((go_at_call 95; refine (HW.out _ hd).mono ?_; rintro _ w5 ⟨A5, n5, c5, rfl, o5, b5⟩; have ct5 := (b5.cell (p := ⟨0, kind * 3, none⟩) (Nat.lt_trans hgo hgd)).trans hct; have hB5 := hBd.below b5 hgd; have q05 := hB5.cell 0; have hO5 := hOd.below b5; have hz5 := b5.size))
    refine hK.out _ _ (by first | exact hct | exact ct5 | exact ct6 | exact ct7) (fun hHeld => ?_)
    clear hK K
    refine wpAnyH_ready (rs := [0]) (by kernel_rfl) (by simp) ?_
    refine AllReadyH.cons rfl (fun K hK => ?_) AllReadyH.nil
    go_simp
    go_wp2_with (fail)
    refine hK.out _ _ (by first | exact hct | exact ct5 | exact ct6 | exact ct7) (fun hHeld => ?_)
    clear hK K
    refine wpAnyH_ready (rs := [8]) (by kernel_rfl) (by simp) ?_
    refine AllReadyH.cons rfl (fun K hK => ?_) AllReadyH.nil
    refine step_app rfl (.tmp 8) (.tmp 15) _ rfl 5 Tryd.underlying40 u8info B A0 n0 c0 acc (by rfl) hO5 w5.heap.size A5 n5 c5 val (by rfl) o5.bs HL.out (Nat.le_trans hBd2 hz5) ?_; intro A6 n6 c6 w6 o6 b6 g6; have ct6 := (b6.cell (p := ⟨0, kind * 3, none⟩) hgB).trans ct5; have hB6 := hB5.grown g6 (by intro e; first | exact own_blk_ne hO5.2 hB5 (by decide) e | exact own_blk_ne hO5.2 hB5 (by decide) e.symm); have f6 := hB6.frozen 0; have q06 := hB6.cell 0; have ct7 := (((Below.refl go w6).setCell (p := ⟨go, 0, none⟩) (Nat.le_refl _) (.slice A6 n6 c6)).cell (p := ⟨0, kind * 3, none⟩) hgo).trans ct6
    refine hK.out _ _ ?_ (fun hHeld => ?_)
    · try dsimp only
      first | exact hct | exact ct5 | exact ct6 | exact ct7
    clear hK K
    refine wpAnyH_ready (rs := [9]) (by kernel_rfl) (by simp) ?_
    refine AllReadyH.cons rfl (fun K hK => ?_) AllReadyH.nil
    go_simp
    go_wp2_with (fail)
    refine hK.out _ _ ?_ (fun hHeld => ?_)
    · try dsimp only
      first | exact hct | exact ct5 | exact ct6 | exact ct7
    clear hK K
    refine wpAnyH_done (by kernel_rfl) ?_ _
    go_wp2_with fail
    go_returns
    refine ⟨rfl, ?_, ?_⟩
    · rw [HV.out]
      exact PO.stored hB6 o6
    · exact (((Sm.of_below ((Below.refl w.heap.size w).drew) hBw).below b5 hBd2).below b6 (Nat.le_refl _)).setCell (p := ⟨go, 0, none⟩) (.inr (by simp)) _
end Go.Proofs.YtlpkngjeihoknaaDoor
namespace Go.Proofs.YtlpkngjeihoknaaDoor
open Go.RowKit
set_option linter.unusedSimpArgs false
set_option linter.unusedVariables false
def onlyIf (b : Bool) (l : List UInt8) : List UInt8 := if b = true then l else []
/-- Attributes' bytes. -/
def attsB (wide : Bool) (a : At) : List UInt8 :=
  attrB 64 1 [ub a.origin] ++ attrB 64 2 (putA wide a.path) ++ attrB 64 3 (b32 a.next) ++ onlyIf (decide (0 ≤ a.med)) (attrB 128 4 (b32 (a.med % 4294967296))) ++ onlyIf (decide (0 ≤ a.pref)) (attrB 64 5 (b32 (a.pref % 4294967296))) ++ onlyIf a.atomic (attrB 64 6 []) ++ onlyIf a.hasAggr (attrB 192 7 (asB wide a.aggrAS ++ b32 a.aggrAddr)) ++ onlyIf (decide (0 < a.comms.length)) (attrB 192 8 (a.comms.flatMap b32)) ++ a.raws.flatMap (fun x => attrB x.1 x.2.1 x.2.2) ++ onlyIf (!wide && bigN (flatA a.path)) (attrB 192 17 (putA true a.path)) ++ onlyIf (!wide && decide (65535 < a.aggrAS)) (attrB 192 18 (b32 a.aggrAS ++ b32 a.aggrAddr))
/-- The bytes, and an error's number. -/
def putAt (wide : Bool) (a : At) : List UInt8 × Int := if rightAt a = true then (attsB wide a, 0) else ([], 1)
def RetPE (w : World) (r : List UInt8 × Int) (e : Ending) (w' : World) : Prop := ∃ (A : Option Addr) (n c : Nat), e = .returned (.tuple #[.slice A n c, .int .i64 r.2]) ∧ OB w' 5 w.heap.size A n c r.1 ∧ Below w.heap.size w w'
theorem rightAt_of {a : At} (h : rightAt a = true) : (0 ≤ a.origin ∧ a.origin ≤ 2) ∧ rightA a.path = true ∧ numA a.med = true ∧ numA a.pref = true ∧ (a.hasAggr = true ∨ (a.aggrAS = 0 ∧ a.aggrAddr = 0)) ∧ a.comms.length ≤ 32 ∧ rawsA a.raws = true ∧ a.raws.length ≤ 8 := by
  unfold rightAt at h
  simp only [Bool.and_eq_true, Bool.or_eq_true, decide_eq_true_eq] at h
  exact ⟨h.1.1.1.1.1.1.1, h.1.1.1.1.1.1.2, h.1.1.1.1.1.2, h.1.1.1.1.2, h.1.1.1.2, h.1.1.2, h.1.2, h.2⟩
theorem b32_len (y : Int) : (b32 y).length = 4 := rfl
theorem b32_flat (l : List Int) : (l.flatMap b32).length = 4 * l.length := by
  induction l with
  | nil => rfl
  | cons y l ih => rw [List.flatMap_cons, List.length_append, ih, b32_len, List.length_cons]; omega
theorem b32_take {l : List Int} {j : Nat} {y : Int} (h : l[j]? = some y) : (l.take (j + 1)).flatMap b32 = (l.take j).flatMap b32 ++ b32 y := by
  rw [List.take_succ_eq_append_getElem (List.getElem?_eq_some_iff.1 h).1, (List.getElem?_eq_some_iff.1 h).2]
  simp
theorem raws_take {l : List RawV} {j : Nat} {x : RawV} (h : l[j]? = some x) : (l.take (j + 1)).flatMap (fun x => attrB x.1 x.2.1 x.2.2) = (l.take j).flatMap (fun x => attrB x.1 x.2.1 x.2.2) ++ attrB x.1 x.2.1 x.2.2 := by
  rw [List.take_succ_eq_append_getElem (List.getElem?_eq_some_iff.1 h).1, (List.getElem?_eq_some_iff.1 h).2]
  simp
theorem put_len {acc : List UInt8} {is : Bool} {fl kind : Int} {v : List UInt8} {K : Nat} (h : acc.length ≤ K) (hv : v.length ≤ 2000) : (acc ++ if is = true then attrB fl kind v else []).length ≤ K + 3000 := by
  rw [List.length_append]
  have := attrB_len fl kind v
  split
  · omega
  · simp; omega
theorem good_raw {l : List RawV} (h : rawsA l = true) {j : Nat} {x : RawV} (hx : l[j]? = some x) : x.1 = 224 ∧ 0 ≤ x.2.1 ∧ x.2.1 ≤ 255 ∧ x.2.2.length ≤ 64 ∧ knownA x.2.1 = false := by
  have hb := rawsA_at h hx
  unfold badRaw at hb
  rw [Bool.or_eq_false_iff] at hb
  have h1 := of_decide_eq_false hb.1
  refine ⟨by omega, by omega, by omega, by omega, ?_⟩
  cases hk : knownA x.2.1
  · rfl
  · exact absurd (.inr (.inr (.inl hk))) h1
theorem bits_low (m : Int) : bits .and .i64 m 4294967295 = m % 4294967296 := i64_and_mask m 32 (by omega)
theorem asB_nrw (y : Int) : asB false y = b16 (nrwA y) := by
  unfold asB nrwA
  simp only [Bool.false_eq_true, if_false]
  split <;> rfl
set_option maxHeartbeats 16000000 in
set_option maxRecDepth 100000 in
theorem attPut_narrow (o : Int) (A : Option Addr) (n c : Nat) (path : List Seg) (nx md pf : Int) (at_ ha : Bool) (gs ga : Int) (A1 : Option Addr) (n1 c1 : Nat) (comms : List Int) (A2 : Option Addr) (n2 c2 : Nat) (raws : List RawV) (w : World) (hp : DL rSeg 2 w (Lo w) A n path) (hc : NF w (Lo w) A1 n1 comms) (hd : DL rRaw 3 w (Lo w) A2 n2 raws) (hn : n ≤ 12) (hs : Hid (sumN path ≤ big32)) (hn2 : n2 ≤ 100000) (ht : LookTab w) (hgo : 0 < w.heap.size) (hw : Hid (0 ≤ nx ∧ nx < 4294967296 ∧ 0 ≤ gs ∧ gs < 4294967296 ∧ 0 ≤ ga ∧ ga < 4294967296)) :
    Calls Tryd.prog 58 #[.agg #[.int .i64 o, .slice A n c, .int .u32 nx, .int .i64 md, .int .i64 pf, .bool at_, .bool ha, .int .u32 gs, .int .u32 ga, .slice A1 n1 c1, .slice A2 n2 c2], .bool false] w (RetPE w (putAt false (⟨o, path, nx, md, pf, at_, ha, gs, ga, comms, raws⟩ : At))) := by
  have HN := Lib.hid hd.len
  have HC := Lib.hid hc.1
  obtain ⟨rt, hrt⟩ : ∃ rt, rightAt (⟨o, path, nx, md, pf, at_, ha, gs, ga, comms, raws⟩ : At) = rt := ⟨_, rfl⟩
  have HR := Lib.hid (show ∀ w', DL rSeg 2 w' (Lo w') A n path → DL rRaw 3 w' (Lo w') A2 n2 raws → LookTab w' → Calls Tryd.prog 48 #[.agg #[.int .i64 o, .slice A n c, .int .u32 nx, .int .i64 md, .int .i64 pf, .bool at_, .bool ha, .int .u32 gs, .int .u32 ga, .slice A1 n1 c1, .slice A2 n2 c2]] w' fun en w'' => en = .returned (.bool rt) ∧ Below w'.heap.size w' w'' from fun w' h1 h2 h3 => by rw [← hrt]; exact attRight o A n c path nx md pf at_ ha gs ga A1 n1 c1 comms A2 n2 c2 raws w' h1 hc.1 h2 (by omega) hn2 h3)
  have HRT := Lib.hid hrt
  obtain ⟨W, hW, hX, bW⟩ := box1c w #[.int .i64 o, .slice A n c, .int .u32 nx, .int .i64 md, .int .i64 pf, .bool at_, .bool ha, .int .u32 gs, .int .u32 ga, .slice A1 n1 c1, .slice A2 n2 c2] 54
  have hpW := hp.keep rSeg_ok (Kp.call bW)
  have hdW := hd.keep rRaw_ok (Kp.call bW)
  have htW := ht.call bW
  have hXl := hX.lt
  obtain ⟨q, hq⟩ : ∃ q, w.heap.size = q := ⟨_, rfl⟩
  have HQ := Lib.hid hq
  go_enter Tryd.func58, Tryd.ntmps58
  go_upto_region 1 with fail
  try rw [hW]
  rw [hq] at hX hXl
  try rw [hq]
  clear hW hq hrt
  have y0 : W.cell? ⟨q, 0, none⟩ = some (.int .i64 o) := hX.cell 0
  have y1 : W.cell? ⟨q, 1, none⟩ = some (.slice A n c) := hX.cell 1
  have y2 : W.cell? ⟨q, 2, none⟩ = some (.int .u32 nx) := hX.cell 2
  have y3 : W.cell? ⟨q, 3, none⟩ = some (.int .i64 md) := hX.cell 3
  have y4 : W.cell? ⟨q, 4, none⟩ = some (.int .i64 pf) := hX.cell 4
  have y5 : W.cell? ⟨q, 5, none⟩ = some (.bool at_) := hX.cell 5
  have y6 : W.cell? ⟨q, 6, none⟩ = some (.bool ha) := hX.cell 6
  have y7 : W.cell? ⟨q, 7, none⟩ = some (.int .u32 gs) := hX.cell 7
  have y8 : W.cell? ⟨q, 8, none⟩ = some (.int .u32 ga) := hX.cell 8
  have y9 : W.cell? ⟨q, 9, none⟩ = some (.slice A1 n1 c1) := hX.cell 9
  have y10 : W.cell? ⟨q, 10, none⟩ = some (.slice A2 n2 c2) := hX.cell 10
  go_wp2_with fail
  refine (HR.out _ hpW hdW htW).mono ?_
  rintro _ w1 ⟨rfl, b1⟩
  have bW1 := btr bW b1 bW.size
  have hX1 := hX.below b1 hXl
  clear y0 y1 y2 y3 y4 y5 y6 y7 y8 y9 y10 hpW hdW htW hX hXl
  cases rt
  · have HP := Lib.hid (show putAt false (⟨o, path, nx, md, pf, at_, ha, gs, ga, comms, raws⟩ : At) = ([], 1) by unfold putAt; rw [HRT.out]; rfl)
    go_wp2_with fail
    go_ret2
    exact ⟨none, 0, 0, by rw [HP.out]; rfl, by rw [HP.out]; exact OB.nil_, bW1⟩
  have HRG := Lib.hid (rightAt_of HRT.out)
  have HP := Lib.hid (show putAt false (⟨o, path, nx, md, pf, at_, ha, gs, ga, comms, raws⟩ : At) = (attsB false (⟨o, path, nx, md, pf, at_, ha, gs, ga, comms, raws⟩ : At), 0) by unfold putAt; rw [HRT.out]; rfl)
  have HPL := Lib.hid (show (putA false path).length ≤ 2000 ∧ (putA true path).length ≤ 2000 by
    have h1 := rightA_of HRG.out.2.1
    have h2 := putA_len false path
    have h3 := putA_len true path
    simp only at h1
    omega)
  have ho0 : 0 ≤ o ∧ o ≤ 2 := HRG.out.1
  obtain ⟨ho0, ho2⟩ := ho0
  have wo : IntKind.u8.wrap o = o := by rw [IntKind.wrap_u8]; omega
  -- the cell of the bytes
  obtain ⟨w2, hw2, hO2, b2⟩ := box1c w1 #[.slice none 0 0] 40
  go_upto_region 4 with fail
  try rw [hw2]
  obtain ⟨go, hgE⟩ : ∃ go, w1.heap.size = go := ⟨_, rfl⟩
  have HGE := Lib.hid hgE
  have hb02 := btr bW1 b2 bW1.size
  have hX2 := hX1.below b2 hX1.lt
  have hqg : q < go := by rw [← hgE]; exact hX1.lt
  rw [hgE] at hO2 b2
  try rw [hgE]
  have hwg : w.heap.size ≤ go := by rw [← hgE]; exact bW1.size
  clear hw2 hgE
  have hgog : 0 < go := Nat.lt_of_lt_of_le hgo hwg
  have ht2 := ht.call hb02
  have HB02 := Lib.hid hb02
  have HX2 := Lib.hid hX2
  have HT2 := Lib.hid ht2
  have bk2 : Below go w2 w2 := Below.refl _ _
  have K0 : ([] : List UInt8).length ≤ 0 := Nat.le_refl _
  obtain ⟨hw0, hw1, hw2, hw3, hw4, hw5⟩ := hw.out
  have HWN := Lib.hid (And.intro hw0 hw1)
  have HWG := Lib.hid (And.intro hw2 hw3)
  have HWA := Lib.hid (And.intro hw4 hw5)
  have hgl2 := hO2.lt
  clear hX1 bW bW1 b1 b2 hb02 hX2 ht2 hw0 hw1 hw2 hw3 hw4 hw5 hgo
  have x7 : w2.cell? ⟨q, 7, none⟩ = some (.int .u32 gs) := (bk2.cell (p := ⟨q, 7, none⟩) hqg).trans (HX2.out.cell 7)
  go_wp2_with fail
  refine (attNarrow gs _ HWG.out.1 HWG.out.2).mono ?_
  rintro _ _ ⟨rfl, rfl⟩
  go_wp2_with fail
  refine (octetPut16 none 0 0 [] (nrwA gs) _ ⟨rfl, Reads.none_⟩ (by simp)).mono ?_
  rintro _ w3 ⟨A3, n3, c3, rfl, o3, b3⟩
  have bk3 := bk2.trans (b3.mono (Nat.le_of_lt hgl2))
  have hO3 := hO2.below b3 hgl2
  have hgl3 := hO3.lt
  have o3 := o3.low (Nat.le_of_lt hgl2)
  clear x7
  obtain ⟨w4, A4, n4, c4, e4⟩ : ∃ (w' : World) (A : Option Addr) (n c : Nat), w' = w3 ∧ A = A3 ∧ n = n3 ∧ c = c3 := ⟨_, _, _, _, rfl, rfl, rfl, rfl⟩
  obtain ⟨rfl, rfl, rfl, rfl⟩ := e4
  have bk4 := bk3
  have hO4 := hO3
  have hgl4 := hgl3
  have oG : OB w4 5 go A4 n4 c4 (asB false gs) := by rw [asB_nrw]; exact o3
  clear o3
  have x9 : w4.cell? ⟨q, 9, none⟩ = some (.slice A1 n1 c1) := (bk4.cell (p := ⟨q, 9, none⟩) hqg).trans (HX2.out.cell 9)
  go_wp2_with fail
  go_loopw [9, 29] (fun x i wr => ∃ (j : Nat) (A5 : Option Addr) (n5 c5 : Nat), j ≤ n1 ∧ i = .int .i64 j ∧ x = .slice A5 n5 c5 ∧ OB wr 5 go A5 n5 c5 ((comms.take j).flatMap b32) ∧ Below w4.heap.size w4 wr) (fun _ i _ => n1 - (intOf i).toNat)
  case atStart => exact ⟨0, none, 0, 0, by omega, rfl, rfl, OB.nil_, Below.refl _ _⟩
  case round =>
    obtain ⟨j, A5, n5, c5, hj, rfl, rfl, o5, b5⟩ := hrel
    by_cases hlt : j < n1
    case pos =>
      have d1 : decide ((j : Int) < n1) = true := decide_eq_true (by omega)
      have hlti : (j : Int) < n1 := by omega
      have hj0 : (0 : Int) ≤ (j : Int) := by omega
      obtain ⟨y, hy⟩ : ∃ y, comms[j]? = some y := ⟨_, List.getElem?_eq_getElem (by have := HC.out; omega)⟩
      have hcr := hc.keep (Kp.call (HB02.out.trans ((bk4.mono hwg).trans (b5.mono (Nat.le_trans hwg (Nat.le_of_lt hgl4))))))
      obtain ⟨b, off, rfl, hbl, k0⟩ := hcr.at_ hy
      obtain ⟨hy0, hy1⟩ := hcr.wf_ hy
      have HY := Lib.hid (b32_take hy)
      have HYB := Lib.hid (show 0 ≤ y ∧ y < 4294967296 by omega)
      have HLN := Lib.hid (show ((comms.take j).flatMap b32).length ≤ 100000 by have h1 := b32_flat (comms.take j); have h2 : comms.length ≤ 32 := HRG.out.2.2.2.2.2.1; rw [List.length_take] at h1; omega)
      have wj : IntKind.i64.wrap ((j : Int) + 1) = (j : Int) + 1 := IntWalk.i64_in _ ⟨by omega, by have h1 : comms.length ≤ 32 := HRG.out.2.2.2.2.2.1; have h2 := HC.out; omega⟩
      have hgr : go ≤ wr.heap.size := Nat.le_trans (Nat.le_of_lt hgl4) b5.size
      clear hy hy0 hy1 hcr
      go_wp2_with fail
      refine (octetPut32 A5 n5 c5 _ y _ o5.bs (by have := HLN.out; omega) HYB.out.1 HYB.out.2).mono ?_
      rintro _ w6 ⟨A6, n6, c6, rfl, o6, b6⟩
      go_wp2_with fail
      go_roundw
      case rel => exact ⟨j + 1, A6, n6, c6, by omega, by go_num, rfl, by rw [HY.out]; exact o6.low hgr, btr b5 b6 b5.size⟩
      case measure => simp [intOf]; omega
    have d1 : decide ((j : Int) < n1) = false := decide_eq_false (by omega)
    have d1' : decide (j < n1) = false := decide_eq_false hlt
    have oC : OB wr 5 go A5 n5 c5 (comms.flatMap b32) := by rw [List.take_of_length_le (by have := HC.out; omega)] at o5; exact o5
    have oG := oG.below b5
    have hO5 := hO4.below b5 hgl4
    have hgl5 := hO5.lt
    have bk5 := bk4.trans (b5.mono (Nat.le_of_lt hgl4))
    obtain ⟨w5, hw5⟩ : ∃ wq, wq = wr := ⟨_, rfl⟩
    subst hw5
    obtain ⟨B, hBE⟩ : ∃ B, w5.heap.size = B := ⟨_, rfl⟩
    have HBE := Lib.hid hBE
    have hgB : go < B := by rw [← hBE]; exact hgl5
    have hqB : q < B := Nat.lt_trans hqg hgB
    have hqn : q ∉ [go] := by simp; omega
    have htB : 0 < B := Nat.lt_trans hgog hgB
    have HX5 := Lib.hid (HX2.out.below bk5 hqg)
    have HT5 := Lib.hid (HT2.out.keepB bk5 hgog)
    have HB5 := Lib.hid (HB02.out.trans (bk5.mono hwg))
    have HO5 := Lib.hid hO5
    have P5 : PO w5 go B [] := ⟨none, 0, 0, hO5, OB.nil_⟩
    have sm5 : Sm B [go] w5 w5 := Sm.refl _ _ _
    have HOG := Lib.hid (show ∀ w', Sm B [go] w5 w' → BS w' w'.heap.size A4 n4 (asB false gs) from fun w' h => (OB.sm oG h (Nat.le_of_eq hBE) hO5).bs)
    have HOC := Lib.hid (show ∀ w', Sm B [go] w5 w' → BS w' w'.heap.size A5 n5 (comms.flatMap b32) from fun w' h => (OB.sm oC h (Nat.le_of_eq hBE) hO5).bs)
    have HTK := Lib.hid (show ∀ w', Sm B [go] w5 w' → LookTab w' from fun w' h => HT5.out.keepB (h.to_below (B0 := go) (Nat.le_of_lt hgB) (by simp)) hgog)
    have HBK := Lib.hid (show ∀ w', Sm B [go] w5 w' → Below w.heap.size w w' from fun w' h => HB5.out.trans ((h.to_below (B0 := go) (Nat.le_of_lt hgB) (by simp)).mono hwg))
    have HPK := Lib.hid (show ∀ w', Sm B [go] w5 w' → DL rSeg 2 w' (Lo w') A n path from fun w' h => hp.keep rSeg_ok (Kp.call (HBK.out w' h)))
    have HDK := Lib.hid (show ∀ w', Sm B [go] w5 w' → DL rRaw 3 w' (Lo w') A2 n2 raws from fun w' h => hd.keep rRaw_ok (Kp.call (HBK.out w' h)))
    clear hlt o5 b5 hj x9 hBE hO5 hO4 hO3 hO2 hgl2 hgl3 hgl4 hgl5 bk2 bk3 bk4 bk5 oG oC b3
    have X_5 := sm5.blk HX5.out hqB hqn
    have HZ_5 := Lib.hid (show B ≤ w5.heap.size from Nat.le_trans (Nat.le_of_eq HBE.out.symm) sm5.size)
    have x0 : w5.cell? ⟨q, 0, none⟩ = some (.int .i64 o) := X_5.cell 0
    go_wp2_with fail
    obtain ⟨w7, hw7, hB7, b7⟩ := box1c w5 #[.int .u8 o] 5
    have bs7 : BS w7 w7.heap.size (some ⟨w5.heap.size, 0, none⟩) 1 [ub o] := by rw [← hw7]; exact (BS.one w5 5 o ho0 (by omega)).more (by simp)
    rw [hw7]
    have P7 := P5.call b7
    have sm7 := sm5.below b7 HZ_5.out
    refine (attPut1 true 1 64 _ 1 1 ([ub o]) w7 go B ([] : List UInt8) (by omega) (by omega) (by decide) P7 (Nat.le_trans HZ_5.out b7.size) (bs7) (by have := (show ([ub o] : List UInt8).length ≤ 2000 by simp); omega) (by have := K0; omega) (HTK.out _ sm7) hgog htB).mono ?_
    rintro _ w8 ⟨rfl, Pn8, sc8⟩
    have sm8 := sm7.trans sc8
    clear x0 hw7 hB7 bs7 sm7 sc8 P7 P5 b7
    obtain ⟨a8, ha8⟩ : ∃ a, (([] : List UInt8) ++ if true = true then attrB 64 ((1 : Nat) : Int) ([ub o]) else []) = a := ⟨_, rfl⟩
    have Kl8 : a8.length ≤ 3000 := by rw [← ha8]; exact put_len K0 (by simp)
    rw [ha8] at Pn8
    have E8 := Lib.hid ha8
    clear ha8
    have X_8 := sm8.blk HX5.out hqB hqn
    have HZ_8 := Lib.hid (show B ≤ w8.heap.size from Nat.le_trans (Nat.le_of_eq HBE.out.symm) sm8.size)
    have x1 : w8.cell? ⟨q, 1, none⟩ = some (.slice A n c) := X_8.cell 1
    have HPP := Lib.hid (aspPut A n c path false w8 (HPK.out _ sm8) hn hs)
    go_wp2_with fail
    refine HPP.out.mono ?_
    rintro _ w9 ⟨A9, n9, c9, rfl, o9, b9⟩
    have sm9 := sm8.below b9 HZ_8.out
    have P9 := Pn8.call b9
    go_wp2_with fail
    refine (attPut1 true 2 64 A9 n9 c9 (putA false path) w9 go B a8 (by omega) (by omega) (by decide) P9 (Nat.le_trans HZ_8.out b9.size) (o9.bs) (by have := (HPL.out.1); omega) (by have := Kl8; omega) (HTK.out _ sm9) hgog htB).mono ?_
    rintro _ w10 ⟨rfl, Pn10, sc10⟩
    have sm10 := sm9.trans sc10
    clear x1 sm9 sc10 P9 o9 b9 Pn8
    obtain ⟨a10, ha10⟩ : ∃ a, (a8 ++ if true = true then attrB 64 ((2 : Nat) : Int) (putA false path) else []) = a := ⟨_, rfl⟩
    have Kl10 : a10.length ≤ 6000 := by rw [← ha10]; exact put_len Kl8 (HPL.out.1)
    rw [ha10] at Pn10
    have E10 := Lib.hid ha10
    clear ha10
    have X_10 := sm10.blk HX5.out hqB hqn
    have HZ_10 := Lib.hid (show B ≤ w10.heap.size from Nat.le_trans (Nat.le_of_eq HBE.out.symm) sm10.size)
    have x2 : w10.cell? ⟨q, 2, none⟩ = some (.int .u32 nx) := X_10.cell 2
    go_wp2_with fail
    refine (octetPut32 none 0 0 [] nx _ ⟨rfl, Reads.none_⟩ (by simp) HWN.out.1 HWN.out.2).mono ?_
    rintro _ w11 ⟨A11, n11, c11, rfl, o11, b11⟩
    have sm11 := sm10.below b11 HZ_10.out
    have P11 := Pn10.call b11
    go_wp2_with fail
    refine (attPut1 true 3 64 A11 n11 c11 (b32 nx) w11 go B a10 (by omega) (by omega) (by decide) P11 (Nat.le_trans HZ_10.out b11.size) (o11.bs) (by have := (show (b32 nx).length ≤ 2000 by rw [b32_len]; omega); omega) (by have := Kl10; omega) (HTK.out _ sm11) hgog htB).mono ?_
    rintro _ w12 ⟨rfl, Pn12, sc12⟩
    have sm12 := sm11.trans sc12
    clear x2 sm11 sc12 P11 o11 b11 Pn10
    obtain ⟨a12, ha12⟩ : ∃ a, (a10 ++ if true = true then attrB 64 ((3 : Nat) : Int) (b32 nx) else []) = a := ⟨_, rfl⟩
    have Kl12 : a12.length ≤ 9000 := by rw [← ha12]; exact put_len Kl10 (by rw [b32_len]; omega)
    rw [ha12] at Pn12
    have E12 := Lib.hid ha12
    clear ha12
    have X_12 := sm12.blk HX5.out hqB hqn
    have HZ_12 := Lib.hid (show B ≤ w12.heap.size from Nat.le_trans (Nat.le_of_eq HBE.out.symm) sm12.size)
    have x3 : w12.cell? ⟨q, 3, none⟩ = some (.int .i64 md) := X_12.cell 3
    obtain ⟨mmd, hmmd⟩ : ∃ m, md % 4294967296 = m := ⟨_, rfl⟩
    have hbmd : bits .and .i64 md 4294967295 = mmd := by rw [bits_low]; exact hmmd
    have hmbmd : 0 ≤ mmd ∧ mmd < 4294967296 := by omega
    have hmwmd : IntKind.u32.wrap mmd = mmd := by rw [IntKind.wrap_u32]; omega
    have HMmd := Lib.hid hmmd
    have HMBmd := Lib.hid hmbmd
    obtain ⟨dmd, hdmd⟩ : ∃ d, decide (0 ≤ md) = d := ⟨_, rfl⟩
    have HDmd := Lib.hid hdmd
    have cx0 : w12.drew.cell? ⟨q, 3, none⟩ = some (.int .i64 md) := x3
    have Pd : PO w12.drew go B a12 := Pn12
    have smd : Sm B [go] w5 w12.drew := sm12.trans (Sm.of_below ((Below.refl w12.heap.size w12).drew) HZ_12.out)
    have hqd : q < w12.drew.heap.size := Nat.lt_of_lt_of_le hqB HZ_12.out
    clear hmmd hmbmd x3
    go_upto_region 17 with fail
    rename_i hk
    have HKK := Lib.hid hk
    clear hk
    refine wp_region_held_drew (S := (fun w' => w'.cell? ⟨q, 3, none⟩ = some (.int .i64 md))) (by kernel_rfl) ?_ (fun hHeld => ?_)
    · first | exact cx0 | exact cx1 | exact cx2
    refine wpAnyH_take (i := 0) (v := ?m14v0) rfl (by kernel_rfl) (by kernel_rfl) (by kernel_rfl) (by intro _ _ _ h; exact h) (Or.inl ⟨by rfl, ?m14hy0⟩) (by assumption) ?m14rest0
    case m14hy0 => (intro w hSw; (try dsimp only at hSw); go_simp; try with_reducible rfl)
    try simp only [Act.put, List.getElem_toArray, List.getElem_cons_succ, List.getElem_cons_zero, List.setIfInBounds_toArray, List.set_cons_zero, List.set_cons_succ]
    refine wpAnyH_take (i := 1) (v := ?m14v1) rfl (by kernel_rfl) (by kernel_rfl) (by kernel_rfl) (by intro _ _ _ h; exact h) (Or.inl ⟨by rfl, ?m14hy1⟩) (by assumption) ?m14rest1
    case m14hy1 => (intro w hSw; (try dsimp only at hSw); go_simp; try with_reducible rfl)
    try simp only [Act.put, List.getElem_toArray, List.getElem_cons_succ, List.getElem_cons_zero, List.setIfInBounds_toArray, List.set_cons_zero, List.set_cons_succ]
    refine wpAnyH_take (i := 2) (v := ?m14v2) rfl (by kernel_rfl) (by kernel_rfl) (by kernel_rfl) (by intro _ _ _ h; exact h) (Or.inl ⟨by rfl, ?m14hy2⟩) (by assumption) ?m14rest2
    case m14hy2 => (intro w hSw; (try dsimp only at hSw); go_simp; try with_reducible rfl)
    try simp only [Act.put, List.getElem_toArray, List.getElem_cons_succ, List.getElem_cons_zero, List.setIfInBounds_toArray, List.set_cons_zero, List.set_cons_succ]
    refine wpAnyH_take (i := 3) (v := ?m14v3) rfl (by kernel_rfl) (by kernel_rfl) (by kernel_rfl) (by intro _ _ _ h; exact h) (Or.inl ⟨by rfl, ?m14hy3⟩) (by assumption) ?m14rest3
    case m14hy3 => (intro w hSw; (try dsimp only at hSw); go_simp; try with_reducible rfl)
    try simp only [Act.put, List.getElem_toArray, List.getElem_cons_succ, List.getElem_cons_zero, List.setIfInBounds_toArray, List.set_cons_zero, List.set_cons_succ]
    refine wpAnyH_take (i := 4) (v := ?m14v4) rfl (by kernel_rfl) (by kernel_rfl) (by kernel_rfl) (by intro _ _ _ h; exact h) (Or.inl ⟨by rfl, ?m14hy4⟩) (by assumption) ?m14rest4
    case m14hy4 => (intro w hSw; (try dsimp only at hSw); go_simp; try with_reducible rfl)
    try simp only [Act.put, List.getElem_toArray, List.getElem_cons_succ, List.getElem_cons_zero, List.setIfInBounds_toArray, List.set_cons_zero, List.set_cons_succ]
    refine wpAnyH_take (i := 5) (v := ?m14v5) rfl (by kernel_rfl) (by kernel_rfl) (by kernel_rfl) (by intro _ _ _ h; exact h) (Or.inl ⟨by rfl, ?m14hy5⟩) (by assumption) ?m14rest5
    case m14hy5 => (intro w hSw; (try dsimp only at hSw); go_simp; try with_reducible rfl)
    try simp only [Act.put, List.getElem_toArray, List.getElem_cons_succ, List.getElem_cons_zero, List.setIfInBounds_toArray, List.set_cons_zero, List.set_cons_succ]
    refine wpAnyH_take (i := 6) (v := ?m14v6) rfl (by kernel_rfl) (by kernel_rfl) (by kernel_rfl) (by intro _ _ _ h; exact h) (Or.inl ⟨by rfl, ?m14hy6⟩) (by assumption) ?m14rest6
    case m14hy6 => (intro w hSw; (try dsimp only at hSw); go_simp; try with_reducible rfl)
    try simp only [Act.put, List.getElem_toArray, List.getElem_cons_succ, List.getElem_cons_zero, List.setIfInBounds_toArray, List.set_cons_zero, List.set_cons_succ]
    refine wpAnyH_take (i := 7) (v := ?m14v7) rfl (by kernel_rfl) (by kernel_rfl) (by kernel_rfl) (by intro _ _ _ h; exact h) (Or.inl ⟨by rfl, ?m14hy7⟩) (by assumption) ?m14rest7
    case m14hy7 => (intro w hSw; (try dsimp only at hSw); go_simp; try with_reducible rfl)
    try simp only [Act.put, List.getElem_toArray, List.getElem_cons_succ, List.getElem_cons_zero, List.setIfInBounds_toArray, List.set_cons_zero, List.set_cons_succ]
    refine wpAnyH_ready (rs := [8]) (by kernel_rfl) (by simp) ?_
    refine AllReadyH.cons rfl (fun K hK => ?_) AllReadyH.nil
    go_simp
    go_wp2_with (go_at_call 74; refine (octetPut32 none 0 0 [] mmd _ ⟨rfl, Reads.none_⟩ (by simp) HMBmd.out.1 HMBmd.out.2).mono ?_; rintro _ w13 ⟨A13, n13, c13, rfl, o13, b13⟩; have cx1 := (b13.cell (p := ⟨q, 3, none⟩) hqd).trans cx0; have sm13 := smd.below b13 HZ_12.out; have P13 := Pd.call b13)
    refine hK.out _ _ ?_ (fun hHeld => ?_)
    · try dsimp only
      first | exact cx0 | exact cx1 | exact cx2
    clear hK K
    refine wpAnyH_ready (rs := [9]) (by kernel_rfl) (by simp) ?_
    refine AllReadyH.cons rfl (fun K hK => ?_) AllReadyH.nil
    go_simp; go_wp2_with fail; refine (attPut1 dmd 4 128 A13 n13 c13 (b32 mmd) w13 go B a12 (by omega) (by omega) (by decide) P13 (Nat.le_trans HZ_12.out b13.size) (o13.bs) (by have := (show (b32 mmd).length ≤ 2000 by rw [b32_len]; omega); omega) (by have := Kl12; omega) (HTK.out _ sm13) hgog htB).mono ?_; rintro _ w14 ⟨rfl, Pn14, sc14⟩; have sm14 := sm13.trans sc14; have cx2 := (sm14.blk HX5.out hqB hqn).cell 3; try dsimp only
    refine hK.out _ _ ?_ (fun hHeld => ?_)
    · try dsimp only
      first | exact cx0 | exact cx1 | exact cx2
    clear hK K
    refine wpAnyH_done (by kernel_rfl) ?_ _
    refine HKK.out _ _ ?_
    clear hHeld sc14 sm13 P13 o13 b13 cx0 cx1 cx2 Pd smd hqd hdmd hbmd hmwmd Pn12
    obtain ⟨a14, ha14⟩ : ∃ a, (a12 ++ if dmd = true then attrB 128 ((4 : Nat) : Int) (b32 mmd) else []) = a := ⟨_, rfl⟩
    have Kl14 : a14.length ≤ 12000 := by rw [← ha14]; exact put_len Kl12 (by rw [b32_len]; omega)
    rw [ha14] at Pn14
    have E14 := Lib.hid ha14
    clear ha14
    have X_14 := sm14.blk HX5.out hqB hqn
    have HZ_14 := Lib.hid (show B ≤ w14.heap.size from Nat.le_trans (Nat.le_of_eq HBE.out.symm) sm14.size)
    have x4 : w14.cell? ⟨q, 4, none⟩ = some (.int .i64 pf) := X_14.cell 4
    obtain ⟨mpf, hmpf⟩ : ∃ m, pf % 4294967296 = m := ⟨_, rfl⟩
    have hbpf : bits .and .i64 pf 4294967295 = mpf := by rw [bits_low]; exact hmpf
    have hmbpf : 0 ≤ mpf ∧ mpf < 4294967296 := by omega
    have hmwpf : IntKind.u32.wrap mpf = mpf := by rw [IntKind.wrap_u32]; omega
    have HMpf := Lib.hid hmpf
    have HMBpf := Lib.hid hmbpf
    obtain ⟨dpf, hdpf⟩ : ∃ d, decide (0 ≤ pf) = d := ⟨_, rfl⟩
    have HDpf := Lib.hid hdpf
    have cx0 : w14.drew.cell? ⟨q, 4, none⟩ = some (.int .i64 pf) := x4
    have Pd : PO w14.drew go B a14 := Pn14
    have smd : Sm B [go] w5 w14.drew := sm14.trans (Sm.of_below ((Below.refl w14.heap.size w14).drew) HZ_14.out)
    have hqd : q < w14.drew.heap.size := Nat.lt_of_lt_of_le hqB HZ_14.out
    clear hmpf hmbpf x4
    go_upto_region 18 with fail
    rename_i hk
    have HKK := Lib.hid hk
    clear hk
    refine wp_region_held_drew (S := (fun w' => w'.cell? ⟨q, 4, none⟩ = some (.int .i64 pf))) (by kernel_rfl) ?_ (fun hHeld => ?_)
    · first | exact cx0 | exact cx1 | exact cx2
    refine wpAnyH_take (i := 0) (v := ?m16v0) rfl (by kernel_rfl) (by kernel_rfl) (by kernel_rfl) (by intro _ _ _ h; exact h) (Or.inl ⟨by rfl, ?m16hy0⟩) (by assumption) ?m16rest0
    case m16hy0 => (intro w hSw; (try dsimp only at hSw); go_simp; try with_reducible rfl)
    try simp only [Act.put, List.getElem_toArray, List.getElem_cons_succ, List.getElem_cons_zero, List.setIfInBounds_toArray, List.set_cons_zero, List.set_cons_succ]
    refine wpAnyH_take (i := 1) (v := ?m16v1) rfl (by kernel_rfl) (by kernel_rfl) (by kernel_rfl) (by intro _ _ _ h; exact h) (Or.inl ⟨by rfl, ?m16hy1⟩) (by assumption) ?m16rest1
    case m16hy1 => (intro w hSw; (try dsimp only at hSw); go_simp; try with_reducible rfl)
    try simp only [Act.put, List.getElem_toArray, List.getElem_cons_succ, List.getElem_cons_zero, List.setIfInBounds_toArray, List.set_cons_zero, List.set_cons_succ]
    refine wpAnyH_take (i := 2) (v := ?m16v2) rfl (by kernel_rfl) (by kernel_rfl) (by kernel_rfl) (by intro _ _ _ h; exact h) (Or.inl ⟨by rfl, ?m16hy2⟩) (by assumption) ?m16rest2
    case m16hy2 => (intro w hSw; (try dsimp only at hSw); go_simp; try with_reducible rfl)
    try simp only [Act.put, List.getElem_toArray, List.getElem_cons_succ, List.getElem_cons_zero, List.setIfInBounds_toArray, List.set_cons_zero, List.set_cons_succ]
    refine wpAnyH_take (i := 3) (v := ?m16v3) rfl (by kernel_rfl) (by kernel_rfl) (by kernel_rfl) (by intro _ _ _ h; exact h) (Or.inl ⟨by rfl, ?m16hy3⟩) (by assumption) ?m16rest3
    case m16hy3 => (intro w hSw; (try dsimp only at hSw); go_simp; try with_reducible rfl)
    try simp only [Act.put, List.getElem_toArray, List.getElem_cons_succ, List.getElem_cons_zero, List.setIfInBounds_toArray, List.set_cons_zero, List.set_cons_succ]
    refine wpAnyH_take (i := 4) (v := ?m16v4) rfl (by kernel_rfl) (by kernel_rfl) (by kernel_rfl) (by intro _ _ _ h; exact h) (Or.inl ⟨by rfl, ?m16hy4⟩) (by assumption) ?m16rest4
    case m16hy4 => (intro w hSw; (try dsimp only at hSw); go_simp; try with_reducible rfl)
    try simp only [Act.put, List.getElem_toArray, List.getElem_cons_succ, List.getElem_cons_zero, List.setIfInBounds_toArray, List.set_cons_zero, List.set_cons_succ]
    refine wpAnyH_take (i := 5) (v := ?m16v5) rfl (by kernel_rfl) (by kernel_rfl) (by kernel_rfl) (by intro _ _ _ h; exact h) (Or.inl ⟨by rfl, ?m16hy5⟩) (by assumption) ?m16rest5
    case m16hy5 => (intro w hSw; (try dsimp only at hSw); go_simp; try with_reducible rfl)
    try simp only [Act.put, List.getElem_toArray, List.getElem_cons_succ, List.getElem_cons_zero, List.setIfInBounds_toArray, List.set_cons_zero, List.set_cons_succ]
    refine wpAnyH_take (i := 6) (v := ?m16v6) rfl (by kernel_rfl) (by kernel_rfl) (by kernel_rfl) (by intro _ _ _ h; exact h) (Or.inl ⟨by rfl, ?m16hy6⟩) (by assumption) ?m16rest6
    case m16hy6 => (intro w hSw; (try dsimp only at hSw); go_simp; try with_reducible rfl)
    try simp only [Act.put, List.getElem_toArray, List.getElem_cons_succ, List.getElem_cons_zero, List.setIfInBounds_toArray, List.set_cons_zero, List.set_cons_succ]
    refine wpAnyH_take (i := 7) (v := ?m16v7) rfl (by kernel_rfl) (by kernel_rfl) (by kernel_rfl) (by intro _ _ _ h; exact h) (Or.inl ⟨by rfl, ?m16hy7⟩) (by assumption) ?m16rest7
    case m16hy7 => (intro w hSw; (try dsimp only at hSw); go_simp; try with_reducible rfl)
    try simp only [Act.put, List.getElem_toArray, List.getElem_cons_succ, List.getElem_cons_zero, List.setIfInBounds_toArray, List.set_cons_zero, List.set_cons_succ]
    refine wpAnyH_ready (rs := [8]) (by kernel_rfl) (by simp) ?_
    refine AllReadyH.cons rfl (fun K hK => ?_) AllReadyH.nil
    go_simp
    go_wp2_with (go_at_call 74; refine (octetPut32 none 0 0 [] mpf _ ⟨rfl, Reads.none_⟩ (by simp) HMBpf.out.1 HMBpf.out.2).mono ?_; rintro _ w15 ⟨A15, n15, c15, rfl, o15, b15⟩; have cx1 := (b15.cell (p := ⟨q, 4, none⟩) hqd).trans cx0; have sm15 := smd.below b15 HZ_14.out; have P15 := Pd.call b15)
    refine hK.out _ _ ?_ (fun hHeld => ?_)
    · try dsimp only
      first | exact cx0 | exact cx1 | exact cx2
    clear hK K
    refine wpAnyH_ready (rs := [9]) (by kernel_rfl) (by simp) ?_
    refine AllReadyH.cons rfl (fun K hK => ?_) AllReadyH.nil
    go_simp; go_wp2_with fail; refine (attPut1 dpf 5 64 A15 n15 c15 (b32 mpf) w15 go B a14 (by omega) (by omega) (by decide) P15 (Nat.le_trans HZ_14.out b15.size) (o15.bs) (by have := (show (b32 mpf).length ≤ 2000 by rw [b32_len]; omega); omega) (by have := Kl14; omega) (HTK.out _ sm15) hgog htB).mono ?_; rintro _ w16 ⟨rfl, Pn16, sc16⟩; have sm16 := sm15.trans sc16; have cx2 := (sm16.blk HX5.out hqB hqn).cell 4; try dsimp only
    refine hK.out _ _ ?_ (fun hHeld => ?_)
    · try dsimp only
      first | exact cx0 | exact cx1 | exact cx2
    clear hK K
    refine wpAnyH_done (by kernel_rfl) ?_ _
    refine HKK.out _ _ ?_
    clear hHeld sc16 sm15 P15 o15 b15 cx0 cx1 cx2 Pd smd hqd hdpf hbpf hmwpf Pn14
    obtain ⟨a16, ha16⟩ : ∃ a, (a14 ++ if dpf = true then attrB 64 ((5 : Nat) : Int) (b32 mpf) else []) = a := ⟨_, rfl⟩
    have Kl16 : a16.length ≤ 15000 := by rw [← ha16]; exact put_len Kl14 (by rw [b32_len]; omega)
    rw [ha16] at Pn16
    have E16 := Lib.hid ha16
    clear ha16
    have X_16 := sm16.blk HX5.out hqB hqn
    have HZ_16 := Lib.hid (show B ≤ w16.heap.size from Nat.le_trans (Nat.le_of_eq HBE.out.symm) sm16.size)
    have x5 : w16.cell? ⟨q, 5, none⟩ = some (.bool at_) := X_16.cell 5
    go_wp2_with fail
    refine (attPut1 at_ 6 64 none 0 0 (([] : List UInt8)) w16 go B a16 (by omega) (by omega) (by decide) Pn16 (HZ_16.out) (⟨rfl, Reads.none_⟩) (by have := (show ([] : List UInt8).length ≤ 2000 by simp); omega) (by have := Kl16; omega) (HTK.out _ sm16) hgog htB).mono ?_
    rintro _ w18 ⟨rfl, Pn18, sc18⟩
    have sm18 := sm16.trans sc18
    clear x5 sc18 Pn16
    obtain ⟨a18, ha18⟩ : ∃ a, (a16 ++ if at_ = true then attrB 64 ((6 : Nat) : Int) (([] : List UInt8)) else []) = a := ⟨_, rfl⟩
    have Kl18 : a18.length ≤ 18000 := by rw [← ha18]; exact put_len Kl16 (by simp)
    rw [ha18] at Pn18
    have E18 := Lib.hid ha18
    clear ha18
    have X_18 := sm18.blk HX5.out hqB hqn
    have HZ_18 := Lib.hid (show B ≤ w18.heap.size from Nat.le_trans (Nat.le_of_eq HBE.out.symm) sm18.size)
    have x6 : w18.cell? ⟨q, 6, none⟩ = some (.bool ha) := X_18.cell 6
    have x8 : w18.cell? ⟨q, 8, none⟩ = some (.int .u32 ga) := X_18.cell 8
    have cx0 : w18.drew.cell? ⟨q, 6, none⟩ = some (.bool ha) ∧ w18.drew.cell? ⟨q, 8, none⟩ = some (.int .u32 ga) := ⟨x6, x8⟩
    have Pd : PO w18.drew go B a18 := Pn18
    have smd : Sm B [go] w5 w18.drew := sm18.trans (Sm.of_below ((Below.refl w18.heap.size w18).drew) HZ_18.out)
    have hqd : q < w18.drew.heap.size := Nat.lt_of_lt_of_le hqB HZ_18.out
    have HGL := Lib.hid (show (asB false gs).length ≤ 4 from asB_len false gs)
    clear x6 x8
    go_upto_region 20 with fail
    rename_i hk
    have HKK := Lib.hid hk
    clear hk
    refine wp_region_held_drew (S := (fun w' => w'.cell? ⟨q, 6, none⟩ = some (.bool ha) ∧ w'.cell? ⟨q, 8, none⟩ = some (.int .u32 ga))) (by kernel_rfl) ?_ (fun hHeld => ?_)
    · first | exact cx0 | exact cx1 | exact cx2
    refine wpAnyH_take (i := 0) (v := ?g20v0) rfl (by kernel_rfl) (by kernel_rfl) (by kernel_rfl) (by intro _ _ _ h; exact h) (Or.inl ⟨by rfl, ?g20hy0⟩) (by assumption) ?g20rest0
    case g20hy0 => (intro w hSw; (try dsimp only at hSw); go_simp; try with_reducible rfl)
    try simp only [Act.put, List.getElem_toArray, List.getElem_cons_succ, List.getElem_cons_zero, List.setIfInBounds_toArray, List.set_cons_zero, List.set_cons_succ]
    refine wpAnyH_take (i := 1) (v := ?g20v1) rfl (by kernel_rfl) (by kernel_rfl) (by kernel_rfl) (by intro _ _ _ h; exact h) (Or.inl ⟨by rfl, ?g20hy1⟩) (by assumption) ?g20rest1
    case g20hy1 => (intro w hSw; (try dsimp only at hSw); go_simp; try with_reducible rfl)
    try simp only [Act.put, List.getElem_toArray, List.getElem_cons_succ, List.getElem_cons_zero, List.setIfInBounds_toArray, List.set_cons_zero, List.set_cons_succ]
    refine wpAnyH_take (i := 2) (v := ?g20v2) rfl (by kernel_rfl) (by kernel_rfl) (by kernel_rfl) (by intro _ _ _ h; exact h) (Or.inl ⟨by rfl, ?g20hy2⟩) (by assumption) ?g20rest2
    case g20hy2 => (intro w hSw; (try dsimp only at hSw); go_simp; try with_reducible rfl)
    try simp only [Act.put, List.getElem_toArray, List.getElem_cons_succ, List.getElem_cons_zero, List.setIfInBounds_toArray, List.set_cons_zero, List.set_cons_succ]
    refine wpAnyH_take (i := 3) (v := ?g20v3) rfl (by kernel_rfl) (by kernel_rfl) (by kernel_rfl) (by intro _ _ _ h; exact h) (Or.inl ⟨by rfl, ?g20hy3⟩) (by assumption) ?g20rest3
    case g20hy3 => (intro w hSw; (try dsimp only at hSw); go_simp; try with_reducible rfl)
    try simp only [Act.put, List.getElem_toArray, List.getElem_cons_succ, List.getElem_cons_zero, List.setIfInBounds_toArray, List.set_cons_zero, List.set_cons_succ]
    refine wpAnyH_take (i := 4) (v := ?g20v4) rfl (by kernel_rfl) (by kernel_rfl) (by kernel_rfl) (by intro _ _ _ h; exact h) (Or.inl ⟨by rfl, ?g20hy4⟩) (by assumption) ?g20rest4
    case g20hy4 => (intro w hSw; (try dsimp only at hSw); go_simp; try with_reducible rfl)
    try simp only [Act.put, List.getElem_toArray, List.getElem_cons_succ, List.getElem_cons_zero, List.setIfInBounds_toArray, List.set_cons_zero, List.set_cons_succ]
    refine wpAnyH_take (i := 5) (v := ?g20v5) rfl (by kernel_rfl) (by kernel_rfl) (by kernel_rfl) (by intro _ _ _ h; exact h) (Or.inl ⟨by rfl, ?g20hy5⟩) (by assumption) ?g20rest5
    case g20hy5 => (intro w hSw; (try dsimp only at hSw); go_simp; try with_reducible rfl)
    try simp only [Act.put, List.getElem_toArray, List.getElem_cons_succ, List.getElem_cons_zero, List.setIfInBounds_toArray, List.set_cons_zero, List.set_cons_succ]
    refine wpAnyH_ready (rs := [6]) (by kernel_rfl) (by simp) ?_
    refine AllReadyH.cons rfl (fun K hK => ?_) AllReadyH.nil
    go_simp
    go_wp2_with (go_at_call 74; refine (octetPut32 A4 n4 c4 (asB false gs) ga _ (HOG.out _ smd) (by have := HGL.out; omega) HWA.out.1 HWA.out.2).mono ?_; rintro _ w19 ⟨A19, n19, c19, rfl, o19, b19⟩; have cx1 := And.intro ((b19.cell (p := ⟨q, 6, none⟩) hqd).trans cx0.1) ((b19.cell (p := ⟨q, 8, none⟩) hqd).trans cx0.2); have sm19 := smd.below b19 HZ_18.out; have P19 := Pd.call b19)
    refine hK.out _ _ ?_ (fun hHeld => ?_)
    · try dsimp only
      first | exact cx0 | exact cx1 | exact cx2
    clear hK K
    refine wpAnyH_ready (rs := [7]) (by kernel_rfl) (by simp) ?_
    refine AllReadyH.cons rfl (fun K hK => ?_) AllReadyH.nil
    go_simp; go_wp2_with fail; refine (attPut1 ha 7 192 A19 n19 c19 (asB false gs ++ b32 ga) w19 go B a18 (by omega) (by omega) (by decide) P19 (Nat.le_trans HZ_18.out b19.size) (o19.bs) (by have := (show (asB false gs ++ b32 ga).length ≤ 2000 by rw [List.length_append, b32_len]; have := HGL.out; omega); omega) (by have := Kl18; omega) (HTK.out _ sm19) hgog htB).mono ?_; rintro _ w20 ⟨rfl, Pn20, sc20⟩; have sm20 := sm19.trans sc20; have X20 := sm20.blk HX5.out hqB hqn; have cx2 := And.intro (X20.cell 6) (X20.cell 8); try dsimp only
    refine hK.out _ _ ?_ (fun hHeld => ?_)
    · try dsimp only
      first | exact cx0 | exact cx1 | exact cx2
    clear hK K
    refine wpAnyH_done (by kernel_rfl) ?_ _
    refine HKK.out _ _ ?_
    clear hHeld sc20 sm19 P19 o19 b19 cx0 cx1 cx2 Pd smd hqd X20 Pn18
    obtain ⟨a20, ha20⟩ : ∃ a, (a18 ++ if ha = true then attrB 192 ((7 : Nat) : Int) (asB false gs ++ b32 ga) else []) = a := ⟨_, rfl⟩
    have Kl20 : a20.length ≤ 21000 := by rw [← ha20]; exact put_len Kl18 (by rw [List.length_append, b32_len]; have := HGL.out; omega)
    rw [ha20] at Pn20
    have E20 := Lib.hid ha20
    clear ha20
    have X_20 := sm20.blk HX5.out hqB hqn
    have HZ_20 := Lib.hid (show B ≤ w20.heap.size from Nat.le_trans (Nat.le_of_eq HBE.out.symm) sm20.size)
    have x9 : w20.cell? ⟨q, 9, none⟩ = some (.slice A1 n1 c1) := X_20.cell 9
    have HCL := Lib.hid (show (comms.flatMap b32).length ≤ 2000 by have h1 := b32_flat comms; have h2 : comms.length ≤ 32 := HRG.out.2.2.2.2.2.1; omega)
    obtain ⟨dc, hdc⟩ : ∃ d, decide (0 < n1) = d := ⟨_, rfl⟩
    have hdc' : decide ((0 : Int) < (n1 : Int)) = dc := by rw [← hdc]; exact decide_eq_decide.2 (by omega)
    have HDC := Lib.hid (show decide (0 < comms.length) = dc by rw [← HC.out]; exact hdc)
    go_wp2_with fail
    refine (attPut1 dc 8 192 A5 n5 c5 (comms.flatMap b32) w20 go B a20 (by omega) (by omega) (by decide) Pn20 (HZ_20.out) (HOC.out _ sm20) (by have := (HCL.out); omega) (by have := Kl20; omega) (HTK.out _ sm20) hgog htB).mono ?_
    rintro _ w22 ⟨rfl, Pn22, sc22⟩
    have sm22 := sm20.trans sc22
    clear x9 sc22 Pn20 hdc hdc'
    obtain ⟨a22, ha22⟩ : ∃ a, (a20 ++ if dc = true then attrB 192 ((8 : Nat) : Int) (comms.flatMap b32) else []) = a := ⟨_, rfl⟩
    have Kl22 : a22.length ≤ 24000 := by rw [← ha22]; exact put_len Kl20 (HCL.out)
    rw [ha22] at Pn22
    have E22 := Lib.hid ha22
    clear ha22
    have X_22 := sm22.blk HX5.out hqB hqn
    have HZ_22 := Lib.hid (show B ≤ w22.heap.size from Nat.le_trans (Nat.le_of_eq HBE.out.symm) sm22.size)
    have x10 : w22.cell? ⟨q, 10, none⟩ = some (.slice A2 n2 c2) := X_22.cell 10
    go_wp2_with fail
    go_loopw [96] (fun i wr => ∃ (j : Nat) (acc : List UInt8), j ≤ n2 ∧ i = .int .i64 j ∧ PO wr go B acc ∧ Sm B [go] w5 wr ∧ Hid (acc = a22 ++ (raws.take j).flatMap (fun x => attrB x.1 x.2.1 x.2.2)) ∧ Hid (acc.length ≤ 24000 + 3000 * j)) (fun i _ => n2 - (intOf i).toNat)
    case atStart => exact ⟨0, a22, by omega, rfl, Pn22, sm22, Lib.hid (by simp), Lib.hid (by have := Kl22; omega)⟩
    case round =>
      obtain ⟨j, acc, hj, rfl, Pr, smr, HAC, HAL⟩ := hrel
      have HZr := Lib.hid (show B ≤ wr.heap.size from Nat.le_trans (Nat.le_of_eq HBE.out.symm) smr.size)
      by_cases hlt : j < n2
      case pos =>
        have d1 : decide ((j : Int) < n2) = true := decide_eq_true (by omega)
        have d1' : decide (j < n2) = true := decide_eq_true hlt
        have hlti : (j : Int) < n2 := by omega
        have hj0 : (0 : Int) ≤ (j : Int) := by omega
        have hj8 : n2 ≤ 8 := by have h1 : raws.length ≤ 8 := HRG.out.2.2.2.2.2.2.2; have := HN.out; omega
        obtain ⟨x, hx⟩ := getL HN.out hlt
        have hdr := HDK.out wr smr
        obtain ⟨b, off, A6, n6, c6, rfl, hbl, k0, k1, k2, hbf, hnc6, wf0, wf1⟩ := hdr.rawAt hx
        have HTA := Lib.hid (raws_take hx)
        have HGD := Lib.hid (good_raw HRG.out.2.2.2.2.2.2.1 hx)
        obtain ⟨fl, ty, dat⟩ := x
        simp only at k0 k1
        have wj : IntKind.i64.wrap ((j : Int) + 1) = (j : Int) + 1 := IntWalk.i64_in _ ⟨by omega, by omega⟩
        have hbs : BS wr wr.heap.size A6 n6 dat := hbf.lt
        obtain ⟨A0, n0, c0, hB, hO⟩ := Pr
        obtain ⟨wx, hwx, hBx, bx⟩ := box1c wr #[.int .i64 fl, .int .i64 ty, .slice A6 n6 c6] 100
        obtain ⟨xq, hxq⟩ : ∃ xq, wr.heap.size = xq := ⟨_, rfl⟩
        have HXQ := Lib.hid hxq
        clear hx hbf wf0 wf1 hnc6 hdr
        go_upto_region 25 with fail
        try rw [hwx]
        have hBa := hB.below bx hB.lt
        have hOa := hO.below bx
        have hsa := hbs.call bx
        have sma := smr.below bx HZr.out
        rw [hxq] at hBx
        try rw [hxq]
        clear hxq hwx k0 k1 k2 hB hO hbs
        have hXd : Blk wx.drew xq 100 #[.int .i64 fl, .int .i64 ty, .slice A6 n6 c6] := hBx
        have hBd : Blk wx.drew go 40 #[.slice A0 n0 c0] := hBa
        have hOd : OB wx.drew 5 B A0 n0 c0 acc := hOa
        have hsd : BS wx.drew wx.drew.heap.size A6 n6 dat := hsa
        have q0 := hBd.cell 0
        have hgd : go < wx.drew.heap.size := hBa.lt
        have hBd2 : B ≤ wx.drew.heap.size := Nat.le_trans HZr.out bx.size
        have hxd : xq < wx.drew.heap.size := hBx.lt
        have hxB : B ≤ xq := by rw [← HXQ.out]; exact HZr.out
        have ct : wx.drew.cell? ⟨xq, 0, none⟩ = some (.int .i64 fl) ∧ wx.drew.cell? ⟨xq, 1, none⟩ = some (.int .i64 ty) ∧ wx.drew.cell? ⟨xq, 2, none⟩ = some (.slice A6 n6 c6) := ⟨hXd.cell 0, hXd.cell 1, hXd.cell 2⟩
        have HWH := Lib.hid (show ∀ w', BS w' w'.heap.size A6 n6 dat → Calls Tryd.prog 95 #[.int .i64 fl, .int .i64 ty, .slice A6 n6 c6] w' (RetB w' 5 (attrB fl ty dat)) from fun w' h => attWhole fl ty A6 n6 c6 dat w' h (.inr (.inr (.inr HGD.out.1))) HGD.out.2.1 HGD.out.2.2.1 (by have h : dat.length ≤ 64 := HGD.out.2.2.2.1; omega))
        have HVL := Lib.hid (show (attrB fl ty dat).length ≤ 3000 by have h1 := attrB_len fl ty dat; have h : dat.length ≤ 64 := HGD.out.2.2.2.1; omega)
        obtain ⟨val, hval⟩ : ∃ val, attrB fl ty dat = val := ⟨_, rfl⟩
        rw [hval] at HWH HVL
        have HV := Lib.hid hval
        clear hval hBx hBa hOa hsa
        rename_i hk
        have HKK := Lib.hid hk
        clear hk
        refine wp_region_held_drew (S := (fun w' => w'.cell? ⟨xq, 0, none⟩ = some (.int .i64 fl) ∧ w'.cell? ⟨xq, 1, none⟩ = some (.int .i64 ty) ∧ w'.cell? ⟨xq, 2, none⟩ = some (.slice A6 n6 c6))) (by kernel_rfl) ?_ (fun hHeld => ?_)
        · first | exact ct | exact ct5 | exact ct6 | exact ct7
        refine wpAnyH_take (i := 1) (v := ?rav1) rfl (by kernel_rfl) (by kernel_rfl) (by kernel_rfl) (by intro _ _ _ h; exact h) (Or.inl ⟨by rfl, ?rahy1⟩) (by assumption) ?rarest1
        case rahy1 => (intro w hSw; (try dsimp only at hSw); go_simp; try with_reducible rfl)
        try simp only [Act.put, List.getElem_toArray, List.getElem_cons_succ, List.getElem_cons_zero, List.setIfInBounds_toArray, List.set_cons_zero, List.set_cons_succ]
        refine wpAnyH_take (i := 2) (v := ?rav2) rfl (by kernel_rfl) (by kernel_rfl) (by kernel_rfl) (by intro _ _ _ h; exact h) (Or.inl ⟨by rfl, ?rahy2⟩) (by assumption) ?rarest2
        case rahy2 => (intro w hSw; (try dsimp only at hSw); go_simp; try with_reducible rfl)
        try simp only [Act.put, List.getElem_toArray, List.getElem_cons_succ, List.getElem_cons_zero, List.setIfInBounds_toArray, List.set_cons_zero, List.set_cons_succ]
        refine wpAnyH_take (i := 3) (v := ?rav3) rfl (by kernel_rfl) (by kernel_rfl) (by kernel_rfl) (by intro _ _ _ h; exact h) (Or.inl ⟨by rfl, ?rahy3⟩) (by assumption) ?rarest3
        case rahy3 => (intro w hSw; (try dsimp only at hSw); go_simp; try with_reducible rfl)
        try simp only [Act.put, List.getElem_toArray, List.getElem_cons_succ, List.getElem_cons_zero, List.setIfInBounds_toArray, List.set_cons_zero, List.set_cons_succ]
        refine wpAnyH_take (i := 4) (v := ?rav4) rfl (by kernel_rfl) (by kernel_rfl) (by kernel_rfl) (by intro _ _ _ h; exact h) (Or.inl ⟨by rfl, ?rahy4⟩) (by assumption) ?rarest4
        case rahy4 => (intro w hSw; (try dsimp only at hSw); go_simp; try with_reducible rfl)
        try simp only [Act.put, List.getElem_toArray, List.getElem_cons_succ, List.getElem_cons_zero, List.setIfInBounds_toArray, List.set_cons_zero, List.set_cons_succ]
        refine wpAnyH_take (i := 5) (v := ?rav5) rfl (by kernel_rfl) (by kernel_rfl) (by kernel_rfl) (by intro _ _ _ h; exact h) (Or.inl ⟨by rfl, ?rahy5⟩) (by assumption) ?rarest5
        case rahy5 => (intro w hSw; (try dsimp only at hSw); go_simp; try with_reducible rfl)
        try simp only [Act.put, List.getElem_toArray, List.getElem_cons_succ, List.getElem_cons_zero, List.setIfInBounds_toArray, List.set_cons_zero, List.set_cons_succ]
        refine wpAnyH_take (i := 6) (v := ?rav6) rfl (by kernel_rfl) (by kernel_rfl) (by kernel_rfl) (by intro _ _ _ h; exact h) (Or.inl ⟨by rfl, ?rahy6⟩) (by assumption) ?rarest6
        case rahy6 => (intro w hSw; (try dsimp only at hSw); go_simp; try with_reducible rfl)
        try simp only [Act.put, List.getElem_toArray, List.getElem_cons_succ, List.getElem_cons_zero, List.setIfInBounds_toArray, List.set_cons_zero, List.set_cons_succ]
        refine wpAnyH_ready (rs := [0, 7]) (by kernel_rfl) (by simp) ?_
        refine AllReadyH.cons rfl (fun K hK => ?_) (AllReadyH.cons rfl (fun K hK => ?_) AllReadyH.nil)
        · skip
          go_simp
          go_wp2_with (fail)
          refine hK.out _ _ (by first | exact ct | exact ct5 | exact ct6 | exact ct7) (fun hHeld => ?_)
          clear hK K
          refine wpAnyH_ready (rs := [7]) (by kernel_rfl) (by simp) ?_
          refine AllReadyH.cons rfl (fun K hK => ?_) AllReadyH.nil
          go_simp
          go_wp2_with ((go_at_call 95; refine (HWH.out _ hsd).mono ?_; rintro _ w25 ⟨A25, n25, c25, rfl, o25, b25⟩; have hX25 := hXd.below b25 hxd; have ct5 := And.intro (hX25.cell 0) (And.intro (hX25.cell 1) (hX25.cell 2)); have hB25 := hBd.below b25 hgd; have q025 := hB25.cell 0; have hO25 := hOd.below b25; have hz25 := b25.size))
          refine hK.out _ _ (by first | exact ct | exact ct5 | exact ct6 | exact ct7) (fun hHeld => ?_)
          clear hK K
          refine wpAnyH_ready (rs := [8]) (by kernel_rfl) (by simp) ?_
          refine AllReadyH.cons rfl (fun K hK => ?_) AllReadyH.nil
          refine step_app rfl (.tmp 100) (.tmp 107) _ rfl 5 Tryd.underlying40 u8info B A0 n0 c0 acc (by rfl) hO25 w25.heap.size A25 n25 c25 val (by rfl) o25.bs (by have h1 := HAL.out; have h2 := HVL.out; omega) (Nat.le_trans hBd2 hz25) ?_; intro A26 n26 c26 w26 o26 b26 g26; have hX26 := hX25.grown g26 (by intro e; first | exact own_blk_ne hO25.2 hX25 (by decide) e | exact own_blk_ne hO25.2 hX25 (by decide) e.symm); have ct6 := And.intro (hX26.cell 0) (And.intro (hX26.cell 1) (hX26.cell 2)); have hB26 := hB25.grown g26 (by intro e; first | exact own_blk_ne hO25.2 hB25 (by decide) e | exact own_blk_ne hO25.2 hB25 (by decide) e.symm); have f26 := hB26.frozen 0; have q026 := hB26.cell 0; have hX27 := hX26.far (p := ⟨go, 0, none⟩) (by show xq ≠ go; omega) (.slice A26 n26 c26); have ct7 := And.intro (hX27.cell 0) (And.intro (hX27.cell 1) (hX27.cell 2))
          refine hK.out _ _ ?_ (fun hHeld => ?_)
          · try dsimp only
            first | exact ct | exact ct5 | exact ct6 | exact ct7
          clear hK K
          refine wpAnyH_ready (rs := [9]) (by kernel_rfl) (by simp) ?_
          refine AllReadyH.cons rfl (fun K hK => ?_) AllReadyH.nil
          go_simp
          go_wp2_with (fail)
          refine hK.out _ _ ?_ (fun hHeld => ?_)
          · try dsimp only
            first | exact ct | exact ct5 | exact ct6 | exact ct7
          clear hK K
          refine wpAnyH_done (by kernel_rfl) ?_ _
          refine HKK.out _ _ ?_
          have HNX := Lib.hid (show acc ++ val = a22 ++ (raws.take (j + 1)).flatMap (fun x => attrB x.1 x.2.1 x.2.2) by rw [HTA.out, ← HV.out, HAC.out, List.append_assoc])
          have HNL := Lib.hid (show (acc ++ val).length ≤ 24000 + 3000 * (j + 1) by have h1 := HAL.out; have h2 := HVL.out; rw [List.length_append]; omega)
          have Pz := PO.stored hB26 o26
          have smz := (((sma.below ((Below.refl wx.heap.size wx).drew) hBd2).below b25 hBd2).below b26 (Nat.le_refl _)).setCell (p := ⟨go, 0, none⟩) (.inr (by simp)) (.slice A26 n26 c26)
          obtain ⟨wz, hwz⟩ : ∃ W, w26.setCell ⟨go, 0, none⟩ (.slice A26 n26 c26) = W := ⟨_, rfl⟩
          rw [hwz] at Pz smz
          rw [hwz]
          clear hwz q026 f26 ct7 ct6 hHeld
          go_wp2_with fail
          go_roundw
          case rel => exact ⟨j + 1, _, by omega, by go_num, Pz, smz, HNX, HNL⟩
          case measure => simp [intOf]; omega
        · skip
          go_simp
          go_wp2_with ((go_at_call 95; refine (HWH.out _ hsd).mono ?_; rintro _ w25 ⟨A25, n25, c25, rfl, o25, b25⟩; have hX25 := hXd.below b25 hxd; have ct5 := And.intro (hX25.cell 0) (And.intro (hX25.cell 1) (hX25.cell 2)); have hB25 := hBd.below b25 hgd; have q025 := hB25.cell 0; have hO25 := hOd.below b25; have hz25 := b25.size))
          refine hK.out _ _ (by first | exact ct | exact ct5 | exact ct6 | exact ct7) (fun hHeld => ?_)
          clear hK K
          refine wpAnyH_ready (rs := [0]) (by kernel_rfl) (by simp) ?_
          refine AllReadyH.cons rfl (fun K hK => ?_) AllReadyH.nil
          go_simp
          go_wp2_with (fail)
          refine hK.out _ _ (by first | exact ct | exact ct5 | exact ct6 | exact ct7) (fun hHeld => ?_)
          clear hK K
          refine wpAnyH_ready (rs := [8]) (by kernel_rfl) (by simp) ?_
          refine AllReadyH.cons rfl (fun K hK => ?_) AllReadyH.nil
          refine step_app rfl (.tmp 100) (.tmp 107) _ rfl 5 Tryd.underlying40 u8info B A0 n0 c0 acc (by rfl) hO25 w25.heap.size A25 n25 c25 val (by rfl) o25.bs (by have h1 := HAL.out; have h2 := HVL.out; omega) (Nat.le_trans hBd2 hz25) ?_; intro A26 n26 c26 w26 o26 b26 g26; have hX26 := hX25.grown g26 (by intro e; first | exact own_blk_ne hO25.2 hX25 (by decide) e | exact own_blk_ne hO25.2 hX25 (by decide) e.symm); have ct6 := And.intro (hX26.cell 0) (And.intro (hX26.cell 1) (hX26.cell 2)); have hB26 := hB25.grown g26 (by intro e; first | exact own_blk_ne hO25.2 hB25 (by decide) e | exact own_blk_ne hO25.2 hB25 (by decide) e.symm); have f26 := hB26.frozen 0; have q026 := hB26.cell 0; have hX27 := hX26.far (p := ⟨go, 0, none⟩) (by show xq ≠ go; omega) (.slice A26 n26 c26); have ct7 := And.intro (hX27.cell 0) (And.intro (hX27.cell 1) (hX27.cell 2))
          refine hK.out _ _ ?_ (fun hHeld => ?_)
          · try dsimp only
            first | exact ct | exact ct5 | exact ct6 | exact ct7
          clear hK K
          refine wpAnyH_ready (rs := [9]) (by kernel_rfl) (by simp) ?_
          refine AllReadyH.cons rfl (fun K hK => ?_) AllReadyH.nil
          go_simp
          go_wp2_with (fail)
          refine hK.out _ _ ?_ (fun hHeld => ?_)
          · try dsimp only
            first | exact ct | exact ct5 | exact ct6 | exact ct7
          clear hK K
          refine wpAnyH_done (by kernel_rfl) ?_ _
          refine HKK.out _ _ ?_
          have HNX := Lib.hid (show acc ++ val = a22 ++ (raws.take (j + 1)).flatMap (fun x => attrB x.1 x.2.1 x.2.2) by rw [HTA.out, ← HV.out, HAC.out, List.append_assoc])
          have HNL := Lib.hid (show (acc ++ val).length ≤ 24000 + 3000 * (j + 1) by have h1 := HAL.out; have h2 := HVL.out; rw [List.length_append]; omega)
          have Pz := PO.stored hB26 o26
          have smz := (((sma.below ((Below.refl wx.heap.size wx).drew) hBd2).below b25 hBd2).below b26 (Nat.le_refl _)).setCell (p := ⟨go, 0, none⟩) (.inr (by simp)) (.slice A26 n26 c26)
          obtain ⟨wz, hwz⟩ : ∃ W, w26.setCell ⟨go, 0, none⟩ (.slice A26 n26 c26) = W := ⟨_, rfl⟩
          rw [hwz] at Pz smz
          rw [hwz]
          clear hwz q026 f26 ct7 ct6 hHeld
          go_wp2_with fail
          go_roundw
          case rel => exact ⟨j + 1, _, by omega, by go_num, Pz, smz, HNX, HNL⟩
          case measure => simp [intOf]; omega
      have d1 : decide ((j : Int) < n2) = false := decide_eq_false (by omega)
      have d1' : decide (j < n2) = false := decide_eq_false hlt
      have E24 := Lib.hid (show acc = a22 ++ raws.flatMap (fun x => attrB x.1 x.2.1 x.2.2) by have := HAC.out; rwa [List.take_of_length_le (by have := HN.out; omega)] at this)
      have Kl24 : acc.length ≤ 48000 := by have h1 := HAL.out; have h2 : raws.length ≤ 8 := HRG.out.2.2.2.2.2.2.2; have := HN.out; omega
      obtain ⟨w24, hw24⟩ : ∃ w', w' = wr := ⟨_, rfl⟩
      subst hw24
      have Pn24 := Pr
      have sm24 := smr
      clear hlt hj Pr smr x10 Pn22 sm22
      have X_24 := sm24.blk HX5.out hqB hqn
      have HZ_24 := Lib.hid (show B ≤ w24.heap.size from Nat.le_trans (Nat.le_of_eq HBE.out.symm) sm24.size)
      have x1 : w24.cell? ⟨q, 1, none⟩ = some (.slice A n c) := X_24.cell 1
      obtain ⟨bn, hbn⟩ : ∃ bn, bigN (flatA path) = bn := ⟨_, rfl⟩
      have HBN := Lib.hid hbn
      have HWD := Lib.hid (show ∀ w', DL rSeg 2 w' (Lo w') A n path → Calls Tryd.prog 97 #[.slice A n c] w' fun en w'' => en = .returned (.bool bn) ∧ Below w'.heap.size w' w'' from fun w' h => by rw [← hbn]; exact attWide A n c path w' h (by omega) hs)
      have HPT := Lib.hid (show ∀ w', DL rSeg 2 w' (Lo w') A n path → Calls Tryd.prog 38 #[.slice A n c, .bool true] w' (RetB w' 5 (putA true path)) from fun w' h => aspPut A n c path true w' h hn hs)
      have cx0 : w24.drew.cell? ⟨q, 1, none⟩ = some (.slice A n c) := x1
      have Pd : PO w24.drew go B acc := Pn24
      have smd : Sm B [go] w5 w24.drew := sm24.trans (Sm.of_below ((Below.refl w24.heap.size w24).drew) HZ_24.out)
      have hqd : q < w24.drew.heap.size := Nat.lt_of_lt_of_le hqB HZ_24.out
      have hBd : B ≤ w24.drew.heap.size := HZ_24.out
      clear x1 hbn
      go_upto_region 27 with fail
      rename_i hk
      have HKK := Lib.hid hk
      clear hk
      refine wp_region_held_drew (S := (fun w' => w'.cell? ⟨q, 1, none⟩ = some (.slice A n c))) (by kernel_rfl) ?_ (fun hHeld => ?_)
      · first | exact cx0 | exact cx25 | exact cx26 | exact cx28
      refine wpAnyH_take (i := 0) (v := ?wav0) rfl (by kernel_rfl) (by kernel_rfl) (by kernel_rfl) (by intro _ _ _ h; exact h) (Or.inl ⟨by rfl, ?wahy0⟩) (by assumption) ?warest0
      case wahy0 => (intro w hSw; (try dsimp only at hSw); go_simp; try with_reducible rfl)
      try simp only [Act.put, List.getElem_toArray, List.getElem_cons_succ, List.getElem_cons_zero, List.setIfInBounds_toArray, List.set_cons_zero, List.set_cons_succ]
      refine wpAnyH_take (i := 1) (v := ?wav1) rfl (by kernel_rfl) (by kernel_rfl) (by kernel_rfl) (by intro _ _ _ h; exact h) (Or.inl ⟨by rfl, ?wahy1⟩) (by assumption) ?warest1
      case wahy1 => (intro w hSw; (try dsimp only at hSw); go_simp; try with_reducible rfl)
      try simp only [Act.put, List.getElem_toArray, List.getElem_cons_succ, List.getElem_cons_zero, List.setIfInBounds_toArray, List.set_cons_zero, List.set_cons_succ]
      refine wpAnyH_take (i := 2) (v := ?wav2) rfl (by kernel_rfl) (by kernel_rfl) (by kernel_rfl) (by intro _ _ _ h; exact h) (Or.inl ⟨by rfl, ?wahy2⟩) (by assumption) ?warest2
      case wahy2 => (intro w hSw; (try dsimp only at hSw); go_simp; try with_reducible rfl)
      try simp only [Act.put, List.getElem_toArray, List.getElem_cons_succ, List.getElem_cons_zero, List.setIfInBounds_toArray, List.set_cons_zero, List.set_cons_succ]
      refine wpAnyH_take (i := 3) (v := ?wav3) rfl (by kernel_rfl) (by kernel_rfl) (by kernel_rfl) (by intro _ _ _ h; exact h) (Or.inl ⟨by rfl, ?wahy3⟩) (by assumption) ?warest3
      case wahy3 => (intro w hSw; (try dsimp only at hSw); go_simp; try with_reducible rfl)
      try simp only [Act.put, List.getElem_toArray, List.getElem_cons_succ, List.getElem_cons_zero, List.setIfInBounds_toArray, List.set_cons_zero, List.set_cons_succ]
      refine wpAnyH_take (i := 4) (v := ?wav4) rfl (by kernel_rfl) (by kernel_rfl) (by kernel_rfl) (by intro _ _ _ h; exact h) (Or.inl ⟨by rfl, ?wahy4⟩) (by assumption) ?warest4
      case wahy4 => (intro w hSw; (try dsimp only at hSw); go_simp; try with_reducible rfl)
      try simp only [Act.put, List.getElem_toArray, List.getElem_cons_succ, List.getElem_cons_zero, List.setIfInBounds_toArray, List.set_cons_zero, List.set_cons_succ]
      refine wpAnyH_take (i := 5) (v := ?wav5) rfl (by kernel_rfl) (by kernel_rfl) (by kernel_rfl) (by intro _ _ _ h; exact h) (Or.inl ⟨by rfl, ?wahy5⟩) (by assumption) ?warest5
      case wahy5 => (intro w hSw; (try dsimp only at hSw); go_simp; try with_reducible rfl)
      try simp only [Act.put, List.getElem_toArray, List.getElem_cons_succ, List.getElem_cons_zero, List.setIfInBounds_toArray, List.set_cons_zero, List.set_cons_succ]
      refine wpAnyH_take (i := 8) (v := ?wav8) rfl (by kernel_rfl) (by kernel_rfl) (by kernel_rfl) (by intro _ _ _ h; exact h) (Or.inl ⟨by rfl, ?wahy8⟩) (by assumption) ?warest8
      case wahy8 => (intro w hSw; (try dsimp only at hSw); go_simp; try with_reducible rfl)
      try simp only [Act.put, List.getElem_toArray, List.getElem_cons_succ, List.getElem_cons_zero, List.setIfInBounds_toArray, List.set_cons_zero, List.set_cons_succ]
      refine wpAnyH_take (i := 9) (v := ?wav9) rfl (by kernel_rfl) (by kernel_rfl) (by kernel_rfl) (by intro _ _ _ h; exact h) (Or.inl ⟨by rfl, ?wahy9⟩) (by assumption) ?warest9
      case wahy9 => (intro w hSw; (try dsimp only at hSw); go_simp; try with_reducible rfl)
      try simp only [Act.put, List.getElem_toArray, List.getElem_cons_succ, List.getElem_cons_zero, List.setIfInBounds_toArray, List.set_cons_zero, List.set_cons_succ]
      refine wpAnyH_ready (rs := [6]) (by kernel_rfl) (by simp) ?_
      refine AllReadyH.cons rfl (fun K hK => ?_) AllReadyH.nil
      go_simp
      go_wp2_with ((go_at_call 97; refine (HWD.out _ (HPK.out _ smd)).mono ?_; rintro _ w25 ⟨rfl, b25⟩; have hB25 : B ≤ w25.heap.size := Nat.le_trans hBd b25.size; have cx25 := (b25.cell (p := ⟨q, 1, none⟩) (Nat.lt_of_lt_of_le hqB hBd)).trans cx0; have sm25 := smd.below b25 hBd; have P25 := Pd.call b25))
      refine hK.out _ _ (by first | exact cx0 | exact cx25 | exact cx26 | exact cx28) (fun hHeld => ?_)
      clear hK K
      refine wpAnyH_take (i := 7) (v := ?wcv7) rfl (by kernel_rfl) (by kernel_rfl) (by kernel_rfl) (by intro _ _ _ h; exact h) (Or.inl ⟨by rfl, ?wchy7⟩) (by assumption) ?wcrest7
      case wchy7 => (intro w hSw; (try dsimp only at hSw); go_simp; try with_reducible rfl)
      try simp only [Act.put, List.getElem_toArray, List.getElem_cons_succ, List.getElem_cons_zero, List.setIfInBounds_toArray, List.set_cons_zero, List.set_cons_succ]
      refine wpAnyH_ready (rs := [10]) (by kernel_rfl) (by simp) ?_
      refine AllReadyH.cons rfl (fun K hK => ?_) AllReadyH.nil
      go_simp
      go_wp2_with ((go_at_call 38; refine (HPT.out _ (HPK.out _ sm25)).mono ?_; rintro _ w26 ⟨A26, n26, c26, rfl, o26, b26⟩; have hB26 : B ≤ w26.heap.size := Nat.le_trans hB25 b26.size; have cx26 := (b26.cell (p := ⟨q, 1, none⟩) (Nat.lt_of_lt_of_le hqB hB25)).trans cx25; have sm26 := sm25.below b26 hB25; have P26 := P25.call b26))
      refine hK.out _ _ (by first | exact cx0 | exact cx25 | exact cx26 | exact cx28) (fun hHeld => ?_)
      clear hK K
      refine wpAnyH_ready (rs := [11]) (by kernel_rfl) (by simp) ?_
      refine AllReadyH.cons rfl (fun K hK => ?_) AllReadyH.nil
      go_simp; go_wp2_with fail; refine (attPut1 bn 17 192 A26 n26 c26 (putA true path) w26 go B acc (by omega) (by omega) (by decide) P26 (hB26) (o26.bs) (by have := (HPL.out.2); omega) (by have := Kl24; omega) (HTK.out _ sm26) hgog htB).mono ?_; rintro _ w28 ⟨rfl, Pn28, sc28⟩; have sm28 := sm26.trans sc28; have cx28 := (sm28.blk HX5.out hqB hqn).cell 1; try dsimp only
      refine hK.out _ _ ?_ (fun hHeld => ?_)
      · try dsimp only
        first | exact cx0 | exact cx25 | exact cx26 | exact cx28
      clear hK K
      refine wpAnyH_done (by kernel_rfl) ?_ _
      refine HKK.out _ _ ?_
      clear hHeld sc28 cx28
      obtain ⟨a28, ha28⟩ : ∃ a, (acc ++ if bn = true then attrB 192 ((17 : Nat) : Int) (putA true path) else []) = a := ⟨_, rfl⟩
      have Kl28 : a28.length ≤ 51000 := by rw [← ha28]; exact put_len Kl24 (HPL.out.2)
      rw [ha28] at Pn28
      have E28 := Lib.hid ha28
      clear ha28
      have X_28 := sm28.blk HX5.out hqB hqn
      have HZ_28 := Lib.hid (show B ≤ w28.heap.size from Nat.le_trans (Nat.le_of_eq HBE.out.symm) sm28.size)
      have x7 : w28.cell? ⟨q, 7, none⟩ = some (.int .u32 gs) := X_28.cell 7
      have x8 : w28.cell? ⟨q, 8, none⟩ = some (.int .u32 ga) := X_28.cell 8
      obtain ⟨bg, hbg⟩ : ∃ bg, decide (65535 < gs) = bg := ⟨_, rfl⟩
      have HBG := Lib.hid hbg
      have cy0 : w28.drew.cell? ⟨q, 7, none⟩ = some (.int .u32 gs) ∧ w28.drew.cell? ⟨q, 8, none⟩ = some (.int .u32 ga) := ⟨x7, x8⟩
      have Pe : PO w28.drew go B a28 := Pn28
      have sme : Sm B [go] w5 w28.drew := sm28.trans (Sm.of_below ((Below.refl w28.heap.size w28).drew) HZ_28.out)
      have hqe : q < w28.drew.heap.size := Nat.lt_of_lt_of_le hqB HZ_28.out
      clear x7 x8
      go_upto_region 28 with fail
      rename_i hk
      have HKK := Lib.hid hk
      clear hk
      refine wp_region_held_drew (S := (fun w' => w'.cell? ⟨q, 7, none⟩ = some (.int .u32 gs) ∧ w'.cell? ⟨q, 8, none⟩ = some (.int .u32 ga))) (by kernel_rfl) ?_ (fun hHeld => ?_)
      · first | exact cy0 | exact cy1 | exact cy2 | exact cy3
      refine wpAnyH_take (i := 0) (v := ?z175v0) rfl (by kernel_rfl) (by kernel_rfl) (by kernel_rfl) (by intro _ _ _ h; exact h) (Or.inl ⟨by rfl, ?z175hy0⟩) (by assumption) ?z175rest0
      case z175hy0 => (intro w hSw; (try dsimp only at hSw); go_simp; try with_reducible rfl)
      try simp only [Act.put, List.getElem_toArray, List.getElem_cons_succ, List.getElem_cons_zero, List.setIfInBounds_toArray, List.set_cons_zero, List.set_cons_succ]
      refine wpAnyH_take (i := 1) (v := ?z175v1) rfl (by kernel_rfl) (by kernel_rfl) (by kernel_rfl) (by intro _ _ _ h; exact h) (Or.inl ⟨by rfl, ?z175hy1⟩) (by assumption) ?z175rest1
      case z175hy1 => (intro w hSw; (try dsimp only at hSw); go_simp; try with_reducible rfl)
      try simp only [Act.put, List.getElem_toArray, List.getElem_cons_succ, List.getElem_cons_zero, List.setIfInBounds_toArray, List.set_cons_zero, List.set_cons_succ]
      refine wpAnyH_take (i := 2) (v := ?z175v2) rfl (by kernel_rfl) (by kernel_rfl) (by kernel_rfl) (by intro _ _ _ h; exact h) (Or.inl ⟨by rfl, ?z175hy2⟩) (by assumption) ?z175rest2
      case z175hy2 => (intro w hSw; (try dsimp only at hSw); go_simp; try with_reducible rfl)
      try simp only [Act.put, List.getElem_toArray, List.getElem_cons_succ, List.getElem_cons_zero, List.setIfInBounds_toArray, List.set_cons_zero, List.set_cons_succ]
      refine wpAnyH_take (i := 3) (v := ?z175v3) rfl (by kernel_rfl) (by kernel_rfl) (by kernel_rfl) (by intro _ _ _ h; exact h) (Or.inl ⟨by rfl, ?z175hy3⟩) (by assumption) ?z175rest3
      case z175hy3 => (intro w hSw; (try dsimp only at hSw); go_simp; try with_reducible rfl)
      try simp only [Act.put, List.getElem_toArray, List.getElem_cons_succ, List.getElem_cons_zero, List.setIfInBounds_toArray, List.set_cons_zero, List.set_cons_succ]
      refine wpAnyH_take (i := 4) (v := ?z175v4) rfl (by kernel_rfl) (by kernel_rfl) (by kernel_rfl) (by intro _ _ _ h; exact h) (Or.inl ⟨by rfl, ?z175hy4⟩) (by assumption) ?z175rest4
      case z175hy4 => (intro w hSw; (try dsimp only at hSw); go_simp; try with_reducible rfl)
      try simp only [Act.put, List.getElem_toArray, List.getElem_cons_succ, List.getElem_cons_zero, List.setIfInBounds_toArray, List.set_cons_zero, List.set_cons_succ]
      refine wpAnyH_take (i := 5) (v := ?z175v5) rfl (by kernel_rfl) (by kernel_rfl) (by kernel_rfl) (by intro _ _ _ h; exact h) (Or.inl ⟨by rfl, ?z175hy5⟩) (by assumption) ?z175rest5
      case z175hy5 => (intro w hSw; (try dsimp only at hSw); go_simp; try with_reducible rfl)
      try simp only [Act.put, List.getElem_toArray, List.getElem_cons_succ, List.getElem_cons_zero, List.setIfInBounds_toArray, List.set_cons_zero, List.set_cons_succ]
      refine wpAnyH_take (i := 6) (v := ?z175v6) rfl (by kernel_rfl) (by kernel_rfl) (by kernel_rfl) (by intro _ _ _ h; exact h) (Or.inl ⟨by rfl, ?z175hy6⟩) (by assumption) ?z175rest6
      case z175hy6 => (intro w hSw; (try dsimp only at hSw); go_simp; try with_reducible rfl)
      try simp only [Act.put, List.getElem_toArray, List.getElem_cons_succ, List.getElem_cons_zero, List.setIfInBounds_toArray, List.set_cons_zero, List.set_cons_succ]
      refine wpAnyH_take (i := 7) (v := ?z175v7) rfl (by kernel_rfl) (by kernel_rfl) (by kernel_rfl) (by intro _ _ _ h; exact h) (Or.inl ⟨by rfl, ?z175hy7⟩) (by assumption) ?z175rest7
      case z175hy7 => (intro w hSw; (try dsimp only at hSw); go_simp; try with_reducible rfl)
      try simp only [Act.put, List.getElem_toArray, List.getElem_cons_succ, List.getElem_cons_zero, List.setIfInBounds_toArray, List.set_cons_zero, List.set_cons_succ]
      refine wpAnyH_take (i := 8) (v := ?z175v8) rfl (by kernel_rfl) (by kernel_rfl) (by kernel_rfl) (by intro _ _ _ h; exact h) (Or.inl ⟨by rfl, ?z175hy8⟩) (by assumption) ?z175rest8
      case z175hy8 => (intro w hSw; (try dsimp only at hSw); go_simp; try with_reducible rfl)
      try simp only [Act.put, List.getElem_toArray, List.getElem_cons_succ, List.getElem_cons_zero, List.setIfInBounds_toArray, List.set_cons_zero, List.set_cons_succ]
      refine wpAnyH_take (i := 9) (v := ?z175v9) rfl (by kernel_rfl) (by kernel_rfl) (by kernel_rfl) (by intro _ _ _ h; exact h) (Or.inl ⟨by rfl, ?z175hy9⟩) (by assumption) ?z175rest9
      case z175hy9 => (intro w hSw; (try dsimp only at hSw); go_simp; try with_reducible rfl)
      try simp only [Act.put, List.getElem_toArray, List.getElem_cons_succ, List.getElem_cons_zero, List.setIfInBounds_toArray, List.set_cons_zero, List.set_cons_succ]
      refine wpAnyH_take (i := 11) (v := ?z175v11) rfl (by kernel_rfl) (by kernel_rfl) (by kernel_rfl) (by intro _ _ _ h; exact h) (Or.inl ⟨by rfl, ?z175hy11⟩) (by assumption) ?z175rest11
      case z175hy11 => (intro w hSw; (try dsimp only at hSw); go_simp; try with_reducible rfl)
      try simp only [Act.put, List.getElem_toArray, List.getElem_cons_succ, List.getElem_cons_zero, List.setIfInBounds_toArray, List.set_cons_zero, List.set_cons_succ]
      refine wpAnyH_take (i := 12) (v := ?z175v12) rfl (by kernel_rfl) (by kernel_rfl) (by kernel_rfl) (by intro _ _ _ h; exact h) (Or.inl ⟨by rfl, ?z175hy12⟩) (by assumption) ?z175rest12
      case z175hy12 => (intro w hSw; (try dsimp only at hSw); go_simp; try with_reducible rfl)
      try simp only [Act.put, List.getElem_toArray, List.getElem_cons_succ, List.getElem_cons_zero, List.setIfInBounds_toArray, List.set_cons_zero, List.set_cons_succ]
      refine wpAnyH_ready (rs := [10]) (by kernel_rfl) (by simp) ?_
      refine AllReadyH.cons rfl (fun K hK => ?_) AllReadyH.nil
      go_simp
      go_wp2_with (go_at_call 74; refine (octetPut32 none 0 0 [] gs _ ⟨rfl, Reads.none_⟩ (by simp) HWG.out.1 HWG.out.2).mono ?_; rintro _ w29 ⟨A29, n29, c29, rfl, o29, b29⟩; have cy1 := And.intro ((b29.cell (p := ⟨q, 7, none⟩) hqe).trans cy0.1) ((b29.cell (p := ⟨q, 8, none⟩) hqe).trans cy0.2); have sm29 := sme.below b29 HZ_28.out; have P29 := Pe.call b29; have hqf : q < w29.heap.size := Nat.lt_of_lt_of_le hqe b29.size; have hB29 : B ≤ w29.heap.size := Nat.le_trans HZ_28.out b29.size)
      refine hK.out _ _ ?_ (fun hHeld => ?_)
      · try dsimp only
        first | exact cy0 | exact cy1 | exact cy2 | exact cy3
      clear hK K
      refine wpAnyH_ready (rs := [13]) (by kernel_rfl) (by simp) ?_
      refine AllReadyH.cons rfl (fun K hK => ?_) AllReadyH.nil
      go_simp
      go_wp2_with (go_at_call 74; refine (octetPut32 A29 n29 c29 (b32 gs) ga _ o29.bs (by rw [b32_len]; omega) HWA.out.1 HWA.out.2).mono ?_; rintro _ w30 ⟨A30, n30, c30, rfl, o30, b30⟩; have cy2 := And.intro ((b30.cell (p := ⟨q, 7, none⟩) hqf).trans cy1.1) ((b30.cell (p := ⟨q, 8, none⟩) hqf).trans cy1.2); have sm30 := sm29.below b30 hB29; have P30 := P29.call b30; have hB30 : B ≤ w30.heap.size := Nat.le_trans hB29 b30.size)
      refine hK.out _ _ ?_ (fun hHeld => ?_)
      · try dsimp only
        first | exact cy0 | exact cy1 | exact cy2 | exact cy3
      clear hK K
      refine wpAnyH_ready (rs := [14]) (by kernel_rfl) (by simp) ?_
      refine AllReadyH.cons rfl (fun K hK => ?_) AllReadyH.nil
      go_simp; go_wp2_with fail; refine (attPut1 bg 18 192 A30 n30 c30 (b32 gs ++ b32 ga) w30 go B a28 (by omega) (by omega) (by decide) P30 (hB30) (o30.bs) (by have := (show (b32 gs ++ b32 ga).length ≤ 2000 by rw [List.length_append, b32_len, b32_len]; omega); omega) (by have := Kl28; omega) (HTK.out _ sm30) hgog htB).mono ?_; rintro _ w32 ⟨rfl, Pn32, sc32⟩; have sm32 := sm30.trans sc32; have X32 := sm32.blk HX5.out hqB hqn; have cy3 := And.intro (X32.cell 7) (X32.cell 8); try dsimp only
      refine hK.out _ _ ?_ (fun hHeld => ?_)
      · try dsimp only
        first | exact cy0 | exact cy1 | exact cy2 | exact cy3
      clear hK K
      refine wpAnyH_done (by kernel_rfl) ?_ _
      refine HKK.out _ _ ?_
      clear hHeld sc32 cy0 cy1 cy2 cy3 X32
      obtain ⟨a32, ha32⟩ : ∃ a, (a28 ++ if bg = true then attrB 192 ((18 : Nat) : Int) (b32 gs ++ b32 ga) else []) = a := ⟨_, rfl⟩
      have Kl32 : a32.length ≤ 54000 := by rw [← ha32]; exact put_len Kl28 (by rw [List.length_append, b32_len, b32_len]; omega)
      rw [ha32] at Pn32
      have E32 := Lib.hid ha32
      clear ha32
      obtain ⟨Az, nz, cz, hBz, hOz⟩ := Pn32
      have z0 : w32.cell? ⟨go, 0, none⟩ = some (.slice Az nz cz) := hBz.cell 0
      have HAL := Lib.hid (show attsB false (⟨o, path, nx, md, pf, at_, ha, gs, ga, comms, raws⟩ : At) = a32 by
        rw [← E32.out, ← E28.out, E24.out, ← E22.out, ← E20.out, ← E18.out, ← E16.out, ← E14.out, ← E12.out, ← E10.out, ← E8.out]
        unfold attsB onlyIf
        simp only [HDmd.out, HMmd.out, HDpf.out, HMpf.out, HDC.out, HBN.out, HBG.out]
        simp)
      clear hBz
      go_wp2_with fail
      go_ret2
      exact ⟨Az, nz, cz, by rw [HP.out]; rfl, by rw [HP.out, HAL.out]; exact hOz.low (by rw [← HBE.out]; exact Nat.le_trans HB5.out.size (Nat.le_refl _)), HBK.out _ sm32⟩
set_option maxHeartbeats 16000000 in
set_option maxRecDepth 100000 in
theorem attPut_wide (o : Int) (A : Option Addr) (n c : Nat) (path : List Seg) (nx md pf : Int) (at_ ha : Bool) (gs ga : Int) (A1 : Option Addr) (n1 c1 : Nat) (comms : List Int) (A2 : Option Addr) (n2 c2 : Nat) (raws : List RawV) (w : World) (hp : DL rSeg 2 w (Lo w) A n path) (hc : NF w (Lo w) A1 n1 comms) (hd : DL rRaw 3 w (Lo w) A2 n2 raws) (hn : n ≤ 12) (hs : Hid (sumN path ≤ big32)) (hn2 : n2 ≤ 100000) (ht : LookTab w) (hgo : 0 < w.heap.size) (hw : Hid (0 ≤ nx ∧ nx < 4294967296 ∧ 0 ≤ gs ∧ gs < 4294967296 ∧ 0 ≤ ga ∧ ga < 4294967296)) :
    Calls Tryd.prog 58 #[.agg #[.int .i64 o, .slice A n c, .int .u32 nx, .int .i64 md, .int .i64 pf, .bool at_, .bool ha, .int .u32 gs, .int .u32 ga, .slice A1 n1 c1, .slice A2 n2 c2], .bool true] w (RetPE w (putAt true (⟨o, path, nx, md, pf, at_, ha, gs, ga, comms, raws⟩ : At))) := by
  have HN := Lib.hid hd.len
  have HC := Lib.hid hc.1
  obtain ⟨rt, hrt⟩ : ∃ rt, rightAt (⟨o, path, nx, md, pf, at_, ha, gs, ga, comms, raws⟩ : At) = rt := ⟨_, rfl⟩
  have HR := Lib.hid (show ∀ w', DL rSeg 2 w' (Lo w') A n path → DL rRaw 3 w' (Lo w') A2 n2 raws → LookTab w' → Calls Tryd.prog 48 #[.agg #[.int .i64 o, .slice A n c, .int .u32 nx, .int .i64 md, .int .i64 pf, .bool at_, .bool ha, .int .u32 gs, .int .u32 ga, .slice A1 n1 c1, .slice A2 n2 c2]] w' fun en w'' => en = .returned (.bool rt) ∧ Below w'.heap.size w' w'' from fun w' h1 h2 h3 => by rw [← hrt]; exact attRight o A n c path nx md pf at_ ha gs ga A1 n1 c1 comms A2 n2 c2 raws w' h1 hc.1 h2 (by omega) hn2 h3)
  have HRT := Lib.hid hrt
  obtain ⟨W, hW, hX, bW⟩ := box1c w #[.int .i64 o, .slice A n c, .int .u32 nx, .int .i64 md, .int .i64 pf, .bool at_, .bool ha, .int .u32 gs, .int .u32 ga, .slice A1 n1 c1, .slice A2 n2 c2] 54
  have hpW := hp.keep rSeg_ok (Kp.call bW)
  have hdW := hd.keep rRaw_ok (Kp.call bW)
  have htW := ht.call bW
  have hXl := hX.lt
  obtain ⟨q, hq⟩ : ∃ q, w.heap.size = q := ⟨_, rfl⟩
  have HQ := Lib.hid hq
  go_enter Tryd.func58, Tryd.ntmps58
  go_upto_region 1 with fail
  try rw [hW]
  rw [hq] at hX hXl
  try rw [hq]
  clear hW hq hrt
  have y0 : W.cell? ⟨q, 0, none⟩ = some (.int .i64 o) := hX.cell 0
  have y1 : W.cell? ⟨q, 1, none⟩ = some (.slice A n c) := hX.cell 1
  have y2 : W.cell? ⟨q, 2, none⟩ = some (.int .u32 nx) := hX.cell 2
  have y3 : W.cell? ⟨q, 3, none⟩ = some (.int .i64 md) := hX.cell 3
  have y4 : W.cell? ⟨q, 4, none⟩ = some (.int .i64 pf) := hX.cell 4
  have y5 : W.cell? ⟨q, 5, none⟩ = some (.bool at_) := hX.cell 5
  have y6 : W.cell? ⟨q, 6, none⟩ = some (.bool ha) := hX.cell 6
  have y7 : W.cell? ⟨q, 7, none⟩ = some (.int .u32 gs) := hX.cell 7
  have y8 : W.cell? ⟨q, 8, none⟩ = some (.int .u32 ga) := hX.cell 8
  have y9 : W.cell? ⟨q, 9, none⟩ = some (.slice A1 n1 c1) := hX.cell 9
  have y10 : W.cell? ⟨q, 10, none⟩ = some (.slice A2 n2 c2) := hX.cell 10
  go_wp2_with fail
  refine (HR.out _ hpW hdW htW).mono ?_
  rintro _ w1 ⟨rfl, b1⟩
  have bW1 := btr bW b1 bW.size
  have hX1 := hX.below b1 hXl
  clear y0 y1 y2 y3 y4 y5 y6 y7 y8 y9 y10 hpW hdW htW hX hXl
  cases rt
  · have HP := Lib.hid (show putAt true (⟨o, path, nx, md, pf, at_, ha, gs, ga, comms, raws⟩ : At) = ([], 1) by unfold putAt; rw [HRT.out]; rfl)
    go_wp2_with fail
    go_ret2
    exact ⟨none, 0, 0, by rw [HP.out]; rfl, by rw [HP.out]; exact OB.nil_, bW1⟩
  have HRG := Lib.hid (rightAt_of HRT.out)
  have HP := Lib.hid (show putAt true (⟨o, path, nx, md, pf, at_, ha, gs, ga, comms, raws⟩ : At) = (attsB true (⟨o, path, nx, md, pf, at_, ha, gs, ga, comms, raws⟩ : At), 0) by unfold putAt; rw [HRT.out]; rfl)
  have HPL := Lib.hid (show (putA true path).length ≤ 2000 ∧ (putA true path).length ≤ 2000 by
    have h1 := rightA_of HRG.out.2.1
    have h2 := putA_len true path
    have h3 := putA_len true path
    simp only at h1
    omega)
  have ho0 : 0 ≤ o ∧ o ≤ 2 := HRG.out.1
  obtain ⟨ho0, ho2⟩ := ho0
  have wo : IntKind.u8.wrap o = o := by rw [IntKind.wrap_u8]; omega
  -- the cell of the bytes
  obtain ⟨w2, hw2, hO2, b2⟩ := box1c w1 #[.slice none 0 0] 40
  go_upto_region 4 with fail
  try rw [hw2]
  obtain ⟨go, hgE⟩ : ∃ go, w1.heap.size = go := ⟨_, rfl⟩
  have HGE := Lib.hid hgE
  have hb02 := btr bW1 b2 bW1.size
  have hX2 := hX1.below b2 hX1.lt
  have hqg : q < go := by rw [← hgE]; exact hX1.lt
  rw [hgE] at hO2 b2
  try rw [hgE]
  have hwg : w.heap.size ≤ go := by rw [← hgE]; exact bW1.size
  clear hw2 hgE
  have hgog : 0 < go := Nat.lt_of_lt_of_le hgo hwg
  have ht2 := ht.call hb02
  have HB02 := Lib.hid hb02
  have HX2 := Lib.hid hX2
  have HT2 := Lib.hid ht2
  have bk2 : Below go w2 w2 := Below.refl _ _
  have K0 : ([] : List UInt8).length ≤ 0 := Nat.le_refl _
  obtain ⟨hw0, hw1, hw2, hw3, hw4, hw5⟩ := hw.out
  have HWN := Lib.hid (And.intro hw0 hw1)
  have HWG := Lib.hid (And.intro hw2 hw3)
  have HWA := Lib.hid (And.intro hw4 hw5)
  have hgl2 := hO2.lt
  clear hX1 bW bW1 b1 b2 hb02 hX2 ht2 hw0 hw1 hw2 hw3 hw4 hw5 hgo
  have x7 : w2.cell? ⟨q, 7, none⟩ = some (.int .u32 gs) := (bk2.cell (p := ⟨q, 7, none⟩) hqg).trans (HX2.out.cell 7)
  go_wp2_with fail
  refine (attNarrow gs _ HWG.out.1 HWG.out.2).mono ?_
  rintro _ _ ⟨rfl, rfl⟩
  go_wp2_with fail
  refine (octetPut16 none 0 0 [] (nrwA gs) _ ⟨rfl, Reads.none_⟩ (by simp)).mono ?_
  rintro _ w3 ⟨A3, n3, c3, rfl, o3, b3⟩
  have bk3 := bk2.trans (b3.mono (Nat.le_of_lt hgl2))
  have hO3 := hO2.below b3 hgl2
  have hgl3 := hO3.lt
  have o3 := o3.low (Nat.le_of_lt hgl2)
  clear x7
  have x7 : w3.cell? ⟨q, 7, none⟩ = some (.int .u32 gs) := (bk3.cell (p := ⟨q, 7, none⟩) hqg).trans (HX2.out.cell 7)
  go_wp2_with fail
  refine (octetPut32 none 0 0 [] gs _ ⟨rfl, Reads.none_⟩ (by simp) HWG.out.1 HWG.out.2).mono ?_
  rintro _ w4 ⟨A4, n4, c4, rfl, o4, b4⟩
  have bk4 := bk3.trans (b4.mono (Nat.le_of_lt hgl3))
  have hO4 := hO3.below b4 hgl3
  have hgl4 := hO4.lt
  have o4 := o4.low (Nat.le_of_lt hgl3)
  have oG : OB w4 5 go A4 n4 c4 (asB true gs) := o4
  clear x7 o3
  have x9 : w4.cell? ⟨q, 9, none⟩ = some (.slice A1 n1 c1) := (bk4.cell (p := ⟨q, 9, none⟩) hqg).trans (HX2.out.cell 9)
  go_wp2_with fail
  go_loopw [9, 29] (fun x i wr => ∃ (j : Nat) (A5 : Option Addr) (n5 c5 : Nat), j ≤ n1 ∧ i = .int .i64 j ∧ x = .slice A5 n5 c5 ∧ OB wr 5 go A5 n5 c5 ((comms.take j).flatMap b32) ∧ Below w4.heap.size w4 wr) (fun _ i _ => n1 - (intOf i).toNat)
  case atStart => exact ⟨0, none, 0, 0, by omega, rfl, rfl, OB.nil_, Below.refl _ _⟩
  case round =>
    obtain ⟨j, A5, n5, c5, hj, rfl, rfl, o5, b5⟩ := hrel
    by_cases hlt : j < n1
    case pos =>
      have d1 : decide ((j : Int) < n1) = true := decide_eq_true (by omega)
      have hlti : (j : Int) < n1 := by omega
      have hj0 : (0 : Int) ≤ (j : Int) := by omega
      obtain ⟨y, hy⟩ : ∃ y, comms[j]? = some y := ⟨_, List.getElem?_eq_getElem (by have := HC.out; omega)⟩
      have hcr := hc.keep (Kp.call (HB02.out.trans ((bk4.mono hwg).trans (b5.mono (Nat.le_trans hwg (Nat.le_of_lt hgl4))))))
      obtain ⟨b, off, rfl, hbl, k0⟩ := hcr.at_ hy
      obtain ⟨hy0, hy1⟩ := hcr.wf_ hy
      have HY := Lib.hid (b32_take hy)
      have HYB := Lib.hid (show 0 ≤ y ∧ y < 4294967296 by omega)
      have HLN := Lib.hid (show ((comms.take j).flatMap b32).length ≤ 100000 by have h1 := b32_flat (comms.take j); have h2 : comms.length ≤ 32 := HRG.out.2.2.2.2.2.1; rw [List.length_take] at h1; omega)
      have wj : IntKind.i64.wrap ((j : Int) + 1) = (j : Int) + 1 := IntWalk.i64_in _ ⟨by omega, by have h1 : comms.length ≤ 32 := HRG.out.2.2.2.2.2.1; have h2 := HC.out; omega⟩
      have hgr : go ≤ wr.heap.size := Nat.le_trans (Nat.le_of_lt hgl4) b5.size
      clear hy hy0 hy1 hcr
      go_wp2_with fail
      refine (octetPut32 A5 n5 c5 _ y _ o5.bs (by have := HLN.out; omega) HYB.out.1 HYB.out.2).mono ?_
      rintro _ w6 ⟨A6, n6, c6, rfl, o6, b6⟩
      go_wp2_with fail
      go_roundw
      case rel => exact ⟨j + 1, A6, n6, c6, by omega, by go_num, rfl, by rw [HY.out]; exact o6.low hgr, btr b5 b6 b5.size⟩
      case measure => simp [intOf]; omega
    have d1 : decide ((j : Int) < n1) = false := decide_eq_false (by omega)
    have d1' : decide (j < n1) = false := decide_eq_false hlt
    have oC : OB wr 5 go A5 n5 c5 (comms.flatMap b32) := by rw [List.take_of_length_le (by have := HC.out; omega)] at o5; exact o5
    have oG := oG.below b5
    have hO5 := hO4.below b5 hgl4
    have hgl5 := hO5.lt
    have bk5 := bk4.trans (b5.mono (Nat.le_of_lt hgl4))
    obtain ⟨w5, hw5⟩ : ∃ wq, wq = wr := ⟨_, rfl⟩
    subst hw5
    obtain ⟨B, hBE⟩ : ∃ B, w5.heap.size = B := ⟨_, rfl⟩
    have HBE := Lib.hid hBE
    have hgB : go < B := by rw [← hBE]; exact hgl5
    have hqB : q < B := Nat.lt_trans hqg hgB
    have hqn : q ∉ [go] := by simp; omega
    have htB : 0 < B := Nat.lt_trans hgog hgB
    have HX5 := Lib.hid (HX2.out.below bk5 hqg)
    have HT5 := Lib.hid (HT2.out.keepB bk5 hgog)
    have HB5 := Lib.hid (HB02.out.trans (bk5.mono hwg))
    have HO5 := Lib.hid hO5
    have P5 : PO w5 go B [] := ⟨none, 0, 0, hO5, OB.nil_⟩
    have sm5 : Sm B [go] w5 w5 := Sm.refl _ _ _
    have HOG := Lib.hid (show ∀ w', Sm B [go] w5 w' → BS w' w'.heap.size A4 n4 (asB true gs) from fun w' h => (OB.sm oG h (Nat.le_of_eq hBE) hO5).bs)
    have HOC := Lib.hid (show ∀ w', Sm B [go] w5 w' → BS w' w'.heap.size A5 n5 (comms.flatMap b32) from fun w' h => (OB.sm oC h (Nat.le_of_eq hBE) hO5).bs)
    have HTK := Lib.hid (show ∀ w', Sm B [go] w5 w' → LookTab w' from fun w' h => HT5.out.keepB (h.to_below (B0 := go) (Nat.le_of_lt hgB) (by simp)) hgog)
    have HBK := Lib.hid (show ∀ w', Sm B [go] w5 w' → Below w.heap.size w w' from fun w' h => HB5.out.trans ((h.to_below (B0 := go) (Nat.le_of_lt hgB) (by simp)).mono hwg))
    have HPK := Lib.hid (show ∀ w', Sm B [go] w5 w' → DL rSeg 2 w' (Lo w') A n path from fun w' h => hp.keep rSeg_ok (Kp.call (HBK.out w' h)))
    have HDK := Lib.hid (show ∀ w', Sm B [go] w5 w' → DL rRaw 3 w' (Lo w') A2 n2 raws from fun w' h => hd.keep rRaw_ok (Kp.call (HBK.out w' h)))
    clear hlt o5 b5 hj x9 hBE hO5 hO4 hO3 hO2 hgl2 hgl3 hgl4 hgl5 bk2 bk3 bk4 bk5 oG oC b3
    have X_5 := sm5.blk HX5.out hqB hqn
    have HZ_5 := Lib.hid (show B ≤ w5.heap.size from Nat.le_trans (Nat.le_of_eq HBE.out.symm) sm5.size)
    have x0 : w5.cell? ⟨q, 0, none⟩ = some (.int .i64 o) := X_5.cell 0
    go_wp2_with fail
    obtain ⟨w7, hw7, hB7, b7⟩ := box1c w5 #[.int .u8 o] 5
    have bs7 : BS w7 w7.heap.size (some ⟨w5.heap.size, 0, none⟩) 1 [ub o] := by rw [← hw7]; exact (BS.one w5 5 o ho0 (by omega)).more (by simp)
    rw [hw7]
    have P7 := P5.call b7
    have sm7 := sm5.below b7 HZ_5.out
    refine (attPut1 true 1 64 _ 1 1 ([ub o]) w7 go B ([] : List UInt8) (by omega) (by omega) (by decide) P7 (Nat.le_trans HZ_5.out b7.size) (bs7) (by have := (show ([ub o] : List UInt8).length ≤ 2000 by simp); omega) (by have := K0; omega) (HTK.out _ sm7) hgog htB).mono ?_
    rintro _ w8 ⟨rfl, Pn8, sc8⟩
    have sm8 := sm7.trans sc8
    clear x0 hw7 hB7 bs7 sm7 sc8 P7 P5 b7
    obtain ⟨a8, ha8⟩ : ∃ a, (([] : List UInt8) ++ if true = true then attrB 64 ((1 : Nat) : Int) ([ub o]) else []) = a := ⟨_, rfl⟩
    have Kl8 : a8.length ≤ 3000 := by rw [← ha8]; exact put_len K0 (by simp)
    rw [ha8] at Pn8
    have E8 := Lib.hid ha8
    clear ha8
    have X_8 := sm8.blk HX5.out hqB hqn
    have HZ_8 := Lib.hid (show B ≤ w8.heap.size from Nat.le_trans (Nat.le_of_eq HBE.out.symm) sm8.size)
    have x1 : w8.cell? ⟨q, 1, none⟩ = some (.slice A n c) := X_8.cell 1
    have HPP := Lib.hid (aspPut A n c path true w8 (HPK.out _ sm8) hn hs)
    go_wp2_with fail
    refine HPP.out.mono ?_
    rintro _ w9 ⟨A9, n9, c9, rfl, o9, b9⟩
    have sm9 := sm8.below b9 HZ_8.out
    have P9 := Pn8.call b9
    go_wp2_with fail
    refine (attPut1 true 2 64 A9 n9 c9 (putA true path) w9 go B a8 (by omega) (by omega) (by decide) P9 (Nat.le_trans HZ_8.out b9.size) (o9.bs) (by have := (HPL.out.1); omega) (by have := Kl8; omega) (HTK.out _ sm9) hgog htB).mono ?_
    rintro _ w10 ⟨rfl, Pn10, sc10⟩
    have sm10 := sm9.trans sc10
    clear x1 sm9 sc10 P9 o9 b9 Pn8
    obtain ⟨a10, ha10⟩ : ∃ a, (a8 ++ if true = true then attrB 64 ((2 : Nat) : Int) (putA true path) else []) = a := ⟨_, rfl⟩
    have Kl10 : a10.length ≤ 6000 := by rw [← ha10]; exact put_len Kl8 (HPL.out.1)
    rw [ha10] at Pn10
    have E10 := Lib.hid ha10
    clear ha10
    have X_10 := sm10.blk HX5.out hqB hqn
    have HZ_10 := Lib.hid (show B ≤ w10.heap.size from Nat.le_trans (Nat.le_of_eq HBE.out.symm) sm10.size)
    have x2 : w10.cell? ⟨q, 2, none⟩ = some (.int .u32 nx) := X_10.cell 2
    go_wp2_with fail
    refine (octetPut32 none 0 0 [] nx _ ⟨rfl, Reads.none_⟩ (by simp) HWN.out.1 HWN.out.2).mono ?_
    rintro _ w11 ⟨A11, n11, c11, rfl, o11, b11⟩
    have sm11 := sm10.below b11 HZ_10.out
    have P11 := Pn10.call b11
    go_wp2_with fail
    refine (attPut1 true 3 64 A11 n11 c11 (b32 nx) w11 go B a10 (by omega) (by omega) (by decide) P11 (Nat.le_trans HZ_10.out b11.size) (o11.bs) (by have := (show (b32 nx).length ≤ 2000 by rw [b32_len]; omega); omega) (by have := Kl10; omega) (HTK.out _ sm11) hgog htB).mono ?_
    rintro _ w12 ⟨rfl, Pn12, sc12⟩
    have sm12 := sm11.trans sc12
    clear x2 sm11 sc12 P11 o11 b11 Pn10
    obtain ⟨a12, ha12⟩ : ∃ a, (a10 ++ if true = true then attrB 64 ((3 : Nat) : Int) (b32 nx) else []) = a := ⟨_, rfl⟩
    have Kl12 : a12.length ≤ 9000 := by rw [← ha12]; exact put_len Kl10 (by rw [b32_len]; omega)
    rw [ha12] at Pn12
    have E12 := Lib.hid ha12
    clear ha12
    have X_12 := sm12.blk HX5.out hqB hqn
    have HZ_12 := Lib.hid (show B ≤ w12.heap.size from Nat.le_trans (Nat.le_of_eq HBE.out.symm) sm12.size)
    have x3 : w12.cell? ⟨q, 3, none⟩ = some (.int .i64 md) := X_12.cell 3
    obtain ⟨mmd, hmmd⟩ : ∃ m, md % 4294967296 = m := ⟨_, rfl⟩
    have hbmd : bits .and .i64 md 4294967295 = mmd := by rw [bits_low]; exact hmmd
    have hmbmd : 0 ≤ mmd ∧ mmd < 4294967296 := by omega
    have hmwmd : IntKind.u32.wrap mmd = mmd := by rw [IntKind.wrap_u32]; omega
    have HMmd := Lib.hid hmmd
    have HMBmd := Lib.hid hmbmd
    obtain ⟨dmd, hdmd⟩ : ∃ d, decide (0 ≤ md) = d := ⟨_, rfl⟩
    have HDmd := Lib.hid hdmd
    have cx0 : w12.drew.cell? ⟨q, 3, none⟩ = some (.int .i64 md) := x3
    have Pd : PO w12.drew go B a12 := Pn12
    have smd : Sm B [go] w5 w12.drew := sm12.trans (Sm.of_below ((Below.refl w12.heap.size w12).drew) HZ_12.out)
    have hqd : q < w12.drew.heap.size := Nat.lt_of_lt_of_le hqB HZ_12.out
    clear hmmd hmbmd x3
    go_upto_region 17 with fail
    rename_i hk
    have HKK := Lib.hid hk
    clear hk
    refine wp_region_held_drew (S := (fun w' => w'.cell? ⟨q, 3, none⟩ = some (.int .i64 md))) (by kernel_rfl) ?_ (fun hHeld => ?_)
    · first | exact cx0 | exact cx1 | exact cx2
    refine wpAnyH_take (i := 0) (v := ?m14v0) rfl (by kernel_rfl) (by kernel_rfl) (by kernel_rfl) (by intro _ _ _ h; exact h) (Or.inl ⟨by rfl, ?m14hy0⟩) (by assumption) ?m14rest0
    case m14hy0 => (intro w hSw; (try dsimp only at hSw); go_simp; try with_reducible rfl)
    try simp only [Act.put, List.getElem_toArray, List.getElem_cons_succ, List.getElem_cons_zero, List.setIfInBounds_toArray, List.set_cons_zero, List.set_cons_succ]
    refine wpAnyH_take (i := 1) (v := ?m14v1) rfl (by kernel_rfl) (by kernel_rfl) (by kernel_rfl) (by intro _ _ _ h; exact h) (Or.inl ⟨by rfl, ?m14hy1⟩) (by assumption) ?m14rest1
    case m14hy1 => (intro w hSw; (try dsimp only at hSw); go_simp; try with_reducible rfl)
    try simp only [Act.put, List.getElem_toArray, List.getElem_cons_succ, List.getElem_cons_zero, List.setIfInBounds_toArray, List.set_cons_zero, List.set_cons_succ]
    refine wpAnyH_take (i := 2) (v := ?m14v2) rfl (by kernel_rfl) (by kernel_rfl) (by kernel_rfl) (by intro _ _ _ h; exact h) (Or.inl ⟨by rfl, ?m14hy2⟩) (by assumption) ?m14rest2
    case m14hy2 => (intro w hSw; (try dsimp only at hSw); go_simp; try with_reducible rfl)
    try simp only [Act.put, List.getElem_toArray, List.getElem_cons_succ, List.getElem_cons_zero, List.setIfInBounds_toArray, List.set_cons_zero, List.set_cons_succ]
    refine wpAnyH_take (i := 3) (v := ?m14v3) rfl (by kernel_rfl) (by kernel_rfl) (by kernel_rfl) (by intro _ _ _ h; exact h) (Or.inl ⟨by rfl, ?m14hy3⟩) (by assumption) ?m14rest3
    case m14hy3 => (intro w hSw; (try dsimp only at hSw); go_simp; try with_reducible rfl)
    try simp only [Act.put, List.getElem_toArray, List.getElem_cons_succ, List.getElem_cons_zero, List.setIfInBounds_toArray, List.set_cons_zero, List.set_cons_succ]
    refine wpAnyH_take (i := 4) (v := ?m14v4) rfl (by kernel_rfl) (by kernel_rfl) (by kernel_rfl) (by intro _ _ _ h; exact h) (Or.inl ⟨by rfl, ?m14hy4⟩) (by assumption) ?m14rest4
    case m14hy4 => (intro w hSw; (try dsimp only at hSw); go_simp; try with_reducible rfl)
    try simp only [Act.put, List.getElem_toArray, List.getElem_cons_succ, List.getElem_cons_zero, List.setIfInBounds_toArray, List.set_cons_zero, List.set_cons_succ]
    refine wpAnyH_take (i := 5) (v := ?m14v5) rfl (by kernel_rfl) (by kernel_rfl) (by kernel_rfl) (by intro _ _ _ h; exact h) (Or.inl ⟨by rfl, ?m14hy5⟩) (by assumption) ?m14rest5
    case m14hy5 => (intro w hSw; (try dsimp only at hSw); go_simp; try with_reducible rfl)
    try simp only [Act.put, List.getElem_toArray, List.getElem_cons_succ, List.getElem_cons_zero, List.setIfInBounds_toArray, List.set_cons_zero, List.set_cons_succ]
    refine wpAnyH_take (i := 6) (v := ?m14v6) rfl (by kernel_rfl) (by kernel_rfl) (by kernel_rfl) (by intro _ _ _ h; exact h) (Or.inl ⟨by rfl, ?m14hy6⟩) (by assumption) ?m14rest6
    case m14hy6 => (intro w hSw; (try dsimp only at hSw); go_simp; try with_reducible rfl)
    try simp only [Act.put, List.getElem_toArray, List.getElem_cons_succ, List.getElem_cons_zero, List.setIfInBounds_toArray, List.set_cons_zero, List.set_cons_succ]
    refine wpAnyH_take (i := 7) (v := ?m14v7) rfl (by kernel_rfl) (by kernel_rfl) (by kernel_rfl) (by intro _ _ _ h; exact h) (Or.inl ⟨by rfl, ?m14hy7⟩) (by assumption) ?m14rest7
    case m14hy7 => (intro w hSw; (try dsimp only at hSw); go_simp; try with_reducible rfl)
    try simp only [Act.put, List.getElem_toArray, List.getElem_cons_succ, List.getElem_cons_zero, List.setIfInBounds_toArray, List.set_cons_zero, List.set_cons_succ]
    refine wpAnyH_ready (rs := [8]) (by kernel_rfl) (by simp) ?_
    refine AllReadyH.cons rfl (fun K hK => ?_) AllReadyH.nil
    go_simp
    go_wp2_with (go_at_call 74; refine (octetPut32 none 0 0 [] mmd _ ⟨rfl, Reads.none_⟩ (by simp) HMBmd.out.1 HMBmd.out.2).mono ?_; rintro _ w13 ⟨A13, n13, c13, rfl, o13, b13⟩; have cx1 := (b13.cell (p := ⟨q, 3, none⟩) hqd).trans cx0; have sm13 := smd.below b13 HZ_12.out; have P13 := Pd.call b13)
    refine hK.out _ _ ?_ (fun hHeld => ?_)
    · try dsimp only
      first | exact cx0 | exact cx1 | exact cx2
    clear hK K
    refine wpAnyH_ready (rs := [9]) (by kernel_rfl) (by simp) ?_
    refine AllReadyH.cons rfl (fun K hK => ?_) AllReadyH.nil
    go_simp; go_wp2_with fail; refine (attPut1 dmd 4 128 A13 n13 c13 (b32 mmd) w13 go B a12 (by omega) (by omega) (by decide) P13 (Nat.le_trans HZ_12.out b13.size) (o13.bs) (by have := (show (b32 mmd).length ≤ 2000 by rw [b32_len]; omega); omega) (by have := Kl12; omega) (HTK.out _ sm13) hgog htB).mono ?_; rintro _ w14 ⟨rfl, Pn14, sc14⟩; have sm14 := sm13.trans sc14; have cx2 := (sm14.blk HX5.out hqB hqn).cell 3; try dsimp only
    refine hK.out _ _ ?_ (fun hHeld => ?_)
    · try dsimp only
      first | exact cx0 | exact cx1 | exact cx2
    clear hK K
    refine wpAnyH_done (by kernel_rfl) ?_ _
    refine HKK.out _ _ ?_
    clear hHeld sc14 sm13 P13 o13 b13 cx0 cx1 cx2 Pd smd hqd hdmd hbmd hmwmd Pn12
    obtain ⟨a14, ha14⟩ : ∃ a, (a12 ++ if dmd = true then attrB 128 ((4 : Nat) : Int) (b32 mmd) else []) = a := ⟨_, rfl⟩
    have Kl14 : a14.length ≤ 12000 := by rw [← ha14]; exact put_len Kl12 (by rw [b32_len]; omega)
    rw [ha14] at Pn14
    have E14 := Lib.hid ha14
    clear ha14
    have X_14 := sm14.blk HX5.out hqB hqn
    have HZ_14 := Lib.hid (show B ≤ w14.heap.size from Nat.le_trans (Nat.le_of_eq HBE.out.symm) sm14.size)
    have x4 : w14.cell? ⟨q, 4, none⟩ = some (.int .i64 pf) := X_14.cell 4
    obtain ⟨mpf, hmpf⟩ : ∃ m, pf % 4294967296 = m := ⟨_, rfl⟩
    have hbpf : bits .and .i64 pf 4294967295 = mpf := by rw [bits_low]; exact hmpf
    have hmbpf : 0 ≤ mpf ∧ mpf < 4294967296 := by omega
    have hmwpf : IntKind.u32.wrap mpf = mpf := by rw [IntKind.wrap_u32]; omega
    have HMpf := Lib.hid hmpf
    have HMBpf := Lib.hid hmbpf
    obtain ⟨dpf, hdpf⟩ : ∃ d, decide (0 ≤ pf) = d := ⟨_, rfl⟩
    have HDpf := Lib.hid hdpf
    have cx0 : w14.drew.cell? ⟨q, 4, none⟩ = some (.int .i64 pf) := x4
    have Pd : PO w14.drew go B a14 := Pn14
    have smd : Sm B [go] w5 w14.drew := sm14.trans (Sm.of_below ((Below.refl w14.heap.size w14).drew) HZ_14.out)
    have hqd : q < w14.drew.heap.size := Nat.lt_of_lt_of_le hqB HZ_14.out
    clear hmpf hmbpf x4
    go_upto_region 18 with fail
    rename_i hk
    have HKK := Lib.hid hk
    clear hk
    refine wp_region_held_drew (S := (fun w' => w'.cell? ⟨q, 4, none⟩ = some (.int .i64 pf))) (by kernel_rfl) ?_ (fun hHeld => ?_)
    · first | exact cx0 | exact cx1 | exact cx2
    refine wpAnyH_take (i := 0) (v := ?m16v0) rfl (by kernel_rfl) (by kernel_rfl) (by kernel_rfl) (by intro _ _ _ h; exact h) (Or.inl ⟨by rfl, ?m16hy0⟩) (by assumption) ?m16rest0
    case m16hy0 => (intro w hSw; (try dsimp only at hSw); go_simp; try with_reducible rfl)
    try simp only [Act.put, List.getElem_toArray, List.getElem_cons_succ, List.getElem_cons_zero, List.setIfInBounds_toArray, List.set_cons_zero, List.set_cons_succ]
    refine wpAnyH_take (i := 1) (v := ?m16v1) rfl (by kernel_rfl) (by kernel_rfl) (by kernel_rfl) (by intro _ _ _ h; exact h) (Or.inl ⟨by rfl, ?m16hy1⟩) (by assumption) ?m16rest1
    case m16hy1 => (intro w hSw; (try dsimp only at hSw); go_simp; try with_reducible rfl)
    try simp only [Act.put, List.getElem_toArray, List.getElem_cons_succ, List.getElem_cons_zero, List.setIfInBounds_toArray, List.set_cons_zero, List.set_cons_succ]
    refine wpAnyH_take (i := 2) (v := ?m16v2) rfl (by kernel_rfl) (by kernel_rfl) (by kernel_rfl) (by intro _ _ _ h; exact h) (Or.inl ⟨by rfl, ?m16hy2⟩) (by assumption) ?m16rest2
    case m16hy2 => (intro w hSw; (try dsimp only at hSw); go_simp; try with_reducible rfl)
    try simp only [Act.put, List.getElem_toArray, List.getElem_cons_succ, List.getElem_cons_zero, List.setIfInBounds_toArray, List.set_cons_zero, List.set_cons_succ]
    refine wpAnyH_take (i := 3) (v := ?m16v3) rfl (by kernel_rfl) (by kernel_rfl) (by kernel_rfl) (by intro _ _ _ h; exact h) (Or.inl ⟨by rfl, ?m16hy3⟩) (by assumption) ?m16rest3
    case m16hy3 => (intro w hSw; (try dsimp only at hSw); go_simp; try with_reducible rfl)
    try simp only [Act.put, List.getElem_toArray, List.getElem_cons_succ, List.getElem_cons_zero, List.setIfInBounds_toArray, List.set_cons_zero, List.set_cons_succ]
    refine wpAnyH_take (i := 4) (v := ?m16v4) rfl (by kernel_rfl) (by kernel_rfl) (by kernel_rfl) (by intro _ _ _ h; exact h) (Or.inl ⟨by rfl, ?m16hy4⟩) (by assumption) ?m16rest4
    case m16hy4 => (intro w hSw; (try dsimp only at hSw); go_simp; try with_reducible rfl)
    try simp only [Act.put, List.getElem_toArray, List.getElem_cons_succ, List.getElem_cons_zero, List.setIfInBounds_toArray, List.set_cons_zero, List.set_cons_succ]
    refine wpAnyH_take (i := 5) (v := ?m16v5) rfl (by kernel_rfl) (by kernel_rfl) (by kernel_rfl) (by intro _ _ _ h; exact h) (Or.inl ⟨by rfl, ?m16hy5⟩) (by assumption) ?m16rest5
    case m16hy5 => (intro w hSw; (try dsimp only at hSw); go_simp; try with_reducible rfl)
    try simp only [Act.put, List.getElem_toArray, List.getElem_cons_succ, List.getElem_cons_zero, List.setIfInBounds_toArray, List.set_cons_zero, List.set_cons_succ]
    refine wpAnyH_take (i := 6) (v := ?m16v6) rfl (by kernel_rfl) (by kernel_rfl) (by kernel_rfl) (by intro _ _ _ h; exact h) (Or.inl ⟨by rfl, ?m16hy6⟩) (by assumption) ?m16rest6
    case m16hy6 => (intro w hSw; (try dsimp only at hSw); go_simp; try with_reducible rfl)
    try simp only [Act.put, List.getElem_toArray, List.getElem_cons_succ, List.getElem_cons_zero, List.setIfInBounds_toArray, List.set_cons_zero, List.set_cons_succ]
    refine wpAnyH_take (i := 7) (v := ?m16v7) rfl (by kernel_rfl) (by kernel_rfl) (by kernel_rfl) (by intro _ _ _ h; exact h) (Or.inl ⟨by rfl, ?m16hy7⟩) (by assumption) ?m16rest7
    case m16hy7 => (intro w hSw; (try dsimp only at hSw); go_simp; try with_reducible rfl)
    try simp only [Act.put, List.getElem_toArray, List.getElem_cons_succ, List.getElem_cons_zero, List.setIfInBounds_toArray, List.set_cons_zero, List.set_cons_succ]
    refine wpAnyH_ready (rs := [8]) (by kernel_rfl) (by simp) ?_
    refine AllReadyH.cons rfl (fun K hK => ?_) AllReadyH.nil
    go_simp
    go_wp2_with (go_at_call 74; refine (octetPut32 none 0 0 [] mpf _ ⟨rfl, Reads.none_⟩ (by simp) HMBpf.out.1 HMBpf.out.2).mono ?_; rintro _ w15 ⟨A15, n15, c15, rfl, o15, b15⟩; have cx1 := (b15.cell (p := ⟨q, 4, none⟩) hqd).trans cx0; have sm15 := smd.below b15 HZ_14.out; have P15 := Pd.call b15)
    refine hK.out _ _ ?_ (fun hHeld => ?_)
    · try dsimp only
      first | exact cx0 | exact cx1 | exact cx2
    clear hK K
    refine wpAnyH_ready (rs := [9]) (by kernel_rfl) (by simp) ?_
    refine AllReadyH.cons rfl (fun K hK => ?_) AllReadyH.nil
    go_simp; go_wp2_with fail; refine (attPut1 dpf 5 64 A15 n15 c15 (b32 mpf) w15 go B a14 (by omega) (by omega) (by decide) P15 (Nat.le_trans HZ_14.out b15.size) (o15.bs) (by have := (show (b32 mpf).length ≤ 2000 by rw [b32_len]; omega); omega) (by have := Kl14; omega) (HTK.out _ sm15) hgog htB).mono ?_; rintro _ w16 ⟨rfl, Pn16, sc16⟩; have sm16 := sm15.trans sc16; have cx2 := (sm16.blk HX5.out hqB hqn).cell 4; try dsimp only
    refine hK.out _ _ ?_ (fun hHeld => ?_)
    · try dsimp only
      first | exact cx0 | exact cx1 | exact cx2
    clear hK K
    refine wpAnyH_done (by kernel_rfl) ?_ _
    refine HKK.out _ _ ?_
    clear hHeld sc16 sm15 P15 o15 b15 cx0 cx1 cx2 Pd smd hqd hdpf hbpf hmwpf Pn14
    obtain ⟨a16, ha16⟩ : ∃ a, (a14 ++ if dpf = true then attrB 64 ((5 : Nat) : Int) (b32 mpf) else []) = a := ⟨_, rfl⟩
    have Kl16 : a16.length ≤ 15000 := by rw [← ha16]; exact put_len Kl14 (by rw [b32_len]; omega)
    rw [ha16] at Pn16
    have E16 := Lib.hid ha16
    clear ha16
    have X_16 := sm16.blk HX5.out hqB hqn
    have HZ_16 := Lib.hid (show B ≤ w16.heap.size from Nat.le_trans (Nat.le_of_eq HBE.out.symm) sm16.size)
    have x5 : w16.cell? ⟨q, 5, none⟩ = some (.bool at_) := X_16.cell 5
    go_wp2_with fail
    refine (attPut1 at_ 6 64 none 0 0 (([] : List UInt8)) w16 go B a16 (by omega) (by omega) (by decide) Pn16 (HZ_16.out) (⟨rfl, Reads.none_⟩) (by have := (show ([] : List UInt8).length ≤ 2000 by simp); omega) (by have := Kl16; omega) (HTK.out _ sm16) hgog htB).mono ?_
    rintro _ w18 ⟨rfl, Pn18, sc18⟩
    have sm18 := sm16.trans sc18
    clear x5 sc18 Pn16
    obtain ⟨a18, ha18⟩ : ∃ a, (a16 ++ if at_ = true then attrB 64 ((6 : Nat) : Int) (([] : List UInt8)) else []) = a := ⟨_, rfl⟩
    have Kl18 : a18.length ≤ 18000 := by rw [← ha18]; exact put_len Kl16 (by simp)
    rw [ha18] at Pn18
    have E18 := Lib.hid ha18
    clear ha18
    have X_18 := sm18.blk HX5.out hqB hqn
    have HZ_18 := Lib.hid (show B ≤ w18.heap.size from Nat.le_trans (Nat.le_of_eq HBE.out.symm) sm18.size)
    have x6 : w18.cell? ⟨q, 6, none⟩ = some (.bool ha) := X_18.cell 6
    have x8 : w18.cell? ⟨q, 8, none⟩ = some (.int .u32 ga) := X_18.cell 8
    have cx0 : w18.drew.cell? ⟨q, 6, none⟩ = some (.bool ha) ∧ w18.drew.cell? ⟨q, 8, none⟩ = some (.int .u32 ga) := ⟨x6, x8⟩
    have Pd : PO w18.drew go B a18 := Pn18
    have smd : Sm B [go] w5 w18.drew := sm18.trans (Sm.of_below ((Below.refl w18.heap.size w18).drew) HZ_18.out)
    have hqd : q < w18.drew.heap.size := Nat.lt_of_lt_of_le hqB HZ_18.out
    have HGL := Lib.hid (show (asB true gs).length ≤ 4 from asB_len true gs)
    clear x6 x8
    go_upto_region 20 with fail
    rename_i hk
    have HKK := Lib.hid hk
    clear hk
    refine wp_region_held_drew (S := (fun w' => w'.cell? ⟨q, 6, none⟩ = some (.bool ha) ∧ w'.cell? ⟨q, 8, none⟩ = some (.int .u32 ga))) (by kernel_rfl) ?_ (fun hHeld => ?_)
    · first | exact cx0 | exact cx1 | exact cx2
    refine wpAnyH_take (i := 0) (v := ?g20v0) rfl (by kernel_rfl) (by kernel_rfl) (by kernel_rfl) (by intro _ _ _ h; exact h) (Or.inl ⟨by rfl, ?g20hy0⟩) (by assumption) ?g20rest0
    case g20hy0 => (intro w hSw; (try dsimp only at hSw); go_simp; try with_reducible rfl)
    try simp only [Act.put, List.getElem_toArray, List.getElem_cons_succ, List.getElem_cons_zero, List.setIfInBounds_toArray, List.set_cons_zero, List.set_cons_succ]
    refine wpAnyH_take (i := 1) (v := ?g20v1) rfl (by kernel_rfl) (by kernel_rfl) (by kernel_rfl) (by intro _ _ _ h; exact h) (Or.inl ⟨by rfl, ?g20hy1⟩) (by assumption) ?g20rest1
    case g20hy1 => (intro w hSw; (try dsimp only at hSw); go_simp; try with_reducible rfl)
    try simp only [Act.put, List.getElem_toArray, List.getElem_cons_succ, List.getElem_cons_zero, List.setIfInBounds_toArray, List.set_cons_zero, List.set_cons_succ]
    refine wpAnyH_take (i := 2) (v := ?g20v2) rfl (by kernel_rfl) (by kernel_rfl) (by kernel_rfl) (by intro _ _ _ h; exact h) (Or.inl ⟨by rfl, ?g20hy2⟩) (by assumption) ?g20rest2
    case g20hy2 => (intro w hSw; (try dsimp only at hSw); go_simp; try with_reducible rfl)
    try simp only [Act.put, List.getElem_toArray, List.getElem_cons_succ, List.getElem_cons_zero, List.setIfInBounds_toArray, List.set_cons_zero, List.set_cons_succ]
    refine wpAnyH_take (i := 3) (v := ?g20v3) rfl (by kernel_rfl) (by kernel_rfl) (by kernel_rfl) (by intro _ _ _ h; exact h) (Or.inl ⟨by rfl, ?g20hy3⟩) (by assumption) ?g20rest3
    case g20hy3 => (intro w hSw; (try dsimp only at hSw); go_simp; try with_reducible rfl)
    try simp only [Act.put, List.getElem_toArray, List.getElem_cons_succ, List.getElem_cons_zero, List.setIfInBounds_toArray, List.set_cons_zero, List.set_cons_succ]
    refine wpAnyH_take (i := 4) (v := ?g20v4) rfl (by kernel_rfl) (by kernel_rfl) (by kernel_rfl) (by intro _ _ _ h; exact h) (Or.inl ⟨by rfl, ?g20hy4⟩) (by assumption) ?g20rest4
    case g20hy4 => (intro w hSw; (try dsimp only at hSw); go_simp; try with_reducible rfl)
    try simp only [Act.put, List.getElem_toArray, List.getElem_cons_succ, List.getElem_cons_zero, List.setIfInBounds_toArray, List.set_cons_zero, List.set_cons_succ]
    refine wpAnyH_take (i := 5) (v := ?g20v5) rfl (by kernel_rfl) (by kernel_rfl) (by kernel_rfl) (by intro _ _ _ h; exact h) (Or.inl ⟨by rfl, ?g20hy5⟩) (by assumption) ?g20rest5
    case g20hy5 => (intro w hSw; (try dsimp only at hSw); go_simp; try with_reducible rfl)
    try simp only [Act.put, List.getElem_toArray, List.getElem_cons_succ, List.getElem_cons_zero, List.setIfInBounds_toArray, List.set_cons_zero, List.set_cons_succ]
    refine wpAnyH_ready (rs := [6]) (by kernel_rfl) (by simp) ?_
    refine AllReadyH.cons rfl (fun K hK => ?_) AllReadyH.nil
    go_simp
    go_wp2_with (go_at_call 74; refine (octetPut32 A4 n4 c4 (asB true gs) ga _ (HOG.out _ smd) (by have := HGL.out; omega) HWA.out.1 HWA.out.2).mono ?_; rintro _ w19 ⟨A19, n19, c19, rfl, o19, b19⟩; have cx1 := And.intro ((b19.cell (p := ⟨q, 6, none⟩) hqd).trans cx0.1) ((b19.cell (p := ⟨q, 8, none⟩) hqd).trans cx0.2); have sm19 := smd.below b19 HZ_18.out; have P19 := Pd.call b19)
    refine hK.out _ _ ?_ (fun hHeld => ?_)
    · try dsimp only
      first | exact cx0 | exact cx1 | exact cx2
    clear hK K
    refine wpAnyH_ready (rs := [7]) (by kernel_rfl) (by simp) ?_
    refine AllReadyH.cons rfl (fun K hK => ?_) AllReadyH.nil
    go_simp; go_wp2_with fail; refine (attPut1 ha 7 192 A19 n19 c19 (asB true gs ++ b32 ga) w19 go B a18 (by omega) (by omega) (by decide) P19 (Nat.le_trans HZ_18.out b19.size) (o19.bs) (by have := (show (asB true gs ++ b32 ga).length ≤ 2000 by rw [List.length_append, b32_len]; have := HGL.out; omega); omega) (by have := Kl18; omega) (HTK.out _ sm19) hgog htB).mono ?_; rintro _ w20 ⟨rfl, Pn20, sc20⟩; have sm20 := sm19.trans sc20; have X20 := sm20.blk HX5.out hqB hqn; have cx2 := And.intro (X20.cell 6) (X20.cell 8); try dsimp only
    refine hK.out _ _ ?_ (fun hHeld => ?_)
    · try dsimp only
      first | exact cx0 | exact cx1 | exact cx2
    clear hK K
    refine wpAnyH_done (by kernel_rfl) ?_ _
    refine HKK.out _ _ ?_
    clear hHeld sc20 sm19 P19 o19 b19 cx0 cx1 cx2 Pd smd hqd X20 Pn18
    obtain ⟨a20, ha20⟩ : ∃ a, (a18 ++ if ha = true then attrB 192 ((7 : Nat) : Int) (asB true gs ++ b32 ga) else []) = a := ⟨_, rfl⟩
    have Kl20 : a20.length ≤ 21000 := by rw [← ha20]; exact put_len Kl18 (by rw [List.length_append, b32_len]; have := HGL.out; omega)
    rw [ha20] at Pn20
    have E20 := Lib.hid ha20
    clear ha20
    have X_20 := sm20.blk HX5.out hqB hqn
    have HZ_20 := Lib.hid (show B ≤ w20.heap.size from Nat.le_trans (Nat.le_of_eq HBE.out.symm) sm20.size)
    have x9 : w20.cell? ⟨q, 9, none⟩ = some (.slice A1 n1 c1) := X_20.cell 9
    have HCL := Lib.hid (show (comms.flatMap b32).length ≤ 2000 by have h1 := b32_flat comms; have h2 : comms.length ≤ 32 := HRG.out.2.2.2.2.2.1; omega)
    obtain ⟨dc, hdc⟩ : ∃ d, decide (0 < n1) = d := ⟨_, rfl⟩
    have hdc' : decide ((0 : Int) < (n1 : Int)) = dc := by rw [← hdc]; exact decide_eq_decide.2 (by omega)
    have HDC := Lib.hid (show decide (0 < comms.length) = dc by rw [← HC.out]; exact hdc)
    go_wp2_with fail
    refine (attPut1 dc 8 192 A5 n5 c5 (comms.flatMap b32) w20 go B a20 (by omega) (by omega) (by decide) Pn20 (HZ_20.out) (HOC.out _ sm20) (by have := (HCL.out); omega) (by have := Kl20; omega) (HTK.out _ sm20) hgog htB).mono ?_
    rintro _ w22 ⟨rfl, Pn22, sc22⟩
    have sm22 := sm20.trans sc22
    clear x9 sc22 Pn20 hdc hdc'
    obtain ⟨a22, ha22⟩ : ∃ a, (a20 ++ if dc = true then attrB 192 ((8 : Nat) : Int) (comms.flatMap b32) else []) = a := ⟨_, rfl⟩
    have Kl22 : a22.length ≤ 24000 := by rw [← ha22]; exact put_len Kl20 (HCL.out)
    rw [ha22] at Pn22
    have E22 := Lib.hid ha22
    clear ha22
    have X_22 := sm22.blk HX5.out hqB hqn
    have HZ_22 := Lib.hid (show B ≤ w22.heap.size from Nat.le_trans (Nat.le_of_eq HBE.out.symm) sm22.size)
    have x10 : w22.cell? ⟨q, 10, none⟩ = some (.slice A2 n2 c2) := X_22.cell 10
    go_wp2_with fail
    go_loopw [96] (fun i wr => ∃ (j : Nat) (acc : List UInt8), j ≤ n2 ∧ i = .int .i64 j ∧ PO wr go B acc ∧ Sm B [go] w5 wr ∧ Hid (acc = a22 ++ (raws.take j).flatMap (fun x => attrB x.1 x.2.1 x.2.2)) ∧ Hid (acc.length ≤ 24000 + 3000 * j)) (fun i _ => n2 - (intOf i).toNat)
    case atStart => exact ⟨0, a22, by omega, rfl, Pn22, sm22, Lib.hid (by simp), Lib.hid (by have := Kl22; omega)⟩
    case round =>
      obtain ⟨j, acc, hj, rfl, Pr, smr, HAC, HAL⟩ := hrel
      have HZr := Lib.hid (show B ≤ wr.heap.size from Nat.le_trans (Nat.le_of_eq HBE.out.symm) smr.size)
      by_cases hlt : j < n2
      case pos =>
        have d1 : decide ((j : Int) < n2) = true := decide_eq_true (by omega)
        have d1' : decide (j < n2) = true := decide_eq_true hlt
        have hlti : (j : Int) < n2 := by omega
        have hj0 : (0 : Int) ≤ (j : Int) := by omega
        have hj8 : n2 ≤ 8 := by have h1 : raws.length ≤ 8 := HRG.out.2.2.2.2.2.2.2; have := HN.out; omega
        obtain ⟨x, hx⟩ := getL HN.out hlt
        have hdr := HDK.out wr smr
        obtain ⟨b, off, A6, n6, c6, rfl, hbl, k0, k1, k2, hbf, hnc6, wf0, wf1⟩ := hdr.rawAt hx
        have HTA := Lib.hid (raws_take hx)
        have HGD := Lib.hid (good_raw HRG.out.2.2.2.2.2.2.1 hx)
        obtain ⟨fl, ty, dat⟩ := x
        simp only at k0 k1
        have wj : IntKind.i64.wrap ((j : Int) + 1) = (j : Int) + 1 := IntWalk.i64_in _ ⟨by omega, by omega⟩
        have hbs : BS wr wr.heap.size A6 n6 dat := hbf.lt
        obtain ⟨A0, n0, c0, hB, hO⟩ := Pr
        obtain ⟨wx, hwx, hBx, bx⟩ := box1c wr #[.int .i64 fl, .int .i64 ty, .slice A6 n6 c6] 100
        obtain ⟨xq, hxq⟩ : ∃ xq, wr.heap.size = xq := ⟨_, rfl⟩
        have HXQ := Lib.hid hxq
        clear hx hbf wf0 wf1 hnc6 hdr
        go_upto_region 25 with fail
        try rw [hwx]
        have hBa := hB.below bx hB.lt
        have hOa := hO.below bx
        have hsa := hbs.call bx
        have sma := smr.below bx HZr.out
        rw [hxq] at hBx
        try rw [hxq]
        clear hxq hwx k0 k1 k2 hB hO hbs
        have hXd : Blk wx.drew xq 100 #[.int .i64 fl, .int .i64 ty, .slice A6 n6 c6] := hBx
        have hBd : Blk wx.drew go 40 #[.slice A0 n0 c0] := hBa
        have hOd : OB wx.drew 5 B A0 n0 c0 acc := hOa
        have hsd : BS wx.drew wx.drew.heap.size A6 n6 dat := hsa
        have q0 := hBd.cell 0
        have hgd : go < wx.drew.heap.size := hBa.lt
        have hBd2 : B ≤ wx.drew.heap.size := Nat.le_trans HZr.out bx.size
        have hxd : xq < wx.drew.heap.size := hBx.lt
        have hxB : B ≤ xq := by rw [← HXQ.out]; exact HZr.out
        have ct : wx.drew.cell? ⟨xq, 0, none⟩ = some (.int .i64 fl) ∧ wx.drew.cell? ⟨xq, 1, none⟩ = some (.int .i64 ty) ∧ wx.drew.cell? ⟨xq, 2, none⟩ = some (.slice A6 n6 c6) := ⟨hXd.cell 0, hXd.cell 1, hXd.cell 2⟩
        have HWH := Lib.hid (show ∀ w', BS w' w'.heap.size A6 n6 dat → Calls Tryd.prog 95 #[.int .i64 fl, .int .i64 ty, .slice A6 n6 c6] w' (RetB w' 5 (attrB fl ty dat)) from fun w' h => attWhole fl ty A6 n6 c6 dat w' h (.inr (.inr (.inr HGD.out.1))) HGD.out.2.1 HGD.out.2.2.1 (by have h : dat.length ≤ 64 := HGD.out.2.2.2.1; omega))
        have HVL := Lib.hid (show (attrB fl ty dat).length ≤ 3000 by have h1 := attrB_len fl ty dat; have h : dat.length ≤ 64 := HGD.out.2.2.2.1; omega)
        obtain ⟨val, hval⟩ : ∃ val, attrB fl ty dat = val := ⟨_, rfl⟩
        rw [hval] at HWH HVL
        have HV := Lib.hid hval
        clear hval hBx hBa hOa hsa
        rename_i hk
        have HKK := Lib.hid hk
        clear hk
        refine wp_region_held_drew (S := (fun w' => w'.cell? ⟨xq, 0, none⟩ = some (.int .i64 fl) ∧ w'.cell? ⟨xq, 1, none⟩ = some (.int .i64 ty) ∧ w'.cell? ⟨xq, 2, none⟩ = some (.slice A6 n6 c6))) (by kernel_rfl) ?_ (fun hHeld => ?_)
        · first | exact ct | exact ct5 | exact ct6 | exact ct7
        refine wpAnyH_take (i := 1) (v := ?rav1) rfl (by kernel_rfl) (by kernel_rfl) (by kernel_rfl) (by intro _ _ _ h; exact h) (Or.inl ⟨by rfl, ?rahy1⟩) (by assumption) ?rarest1
        case rahy1 => (intro w hSw; (try dsimp only at hSw); go_simp; try with_reducible rfl)
        try simp only [Act.put, List.getElem_toArray, List.getElem_cons_succ, List.getElem_cons_zero, List.setIfInBounds_toArray, List.set_cons_zero, List.set_cons_succ]
        refine wpAnyH_take (i := 2) (v := ?rav2) rfl (by kernel_rfl) (by kernel_rfl) (by kernel_rfl) (by intro _ _ _ h; exact h) (Or.inl ⟨by rfl, ?rahy2⟩) (by assumption) ?rarest2
        case rahy2 => (intro w hSw; (try dsimp only at hSw); go_simp; try with_reducible rfl)
        try simp only [Act.put, List.getElem_toArray, List.getElem_cons_succ, List.getElem_cons_zero, List.setIfInBounds_toArray, List.set_cons_zero, List.set_cons_succ]
        refine wpAnyH_take (i := 3) (v := ?rav3) rfl (by kernel_rfl) (by kernel_rfl) (by kernel_rfl) (by intro _ _ _ h; exact h) (Or.inl ⟨by rfl, ?rahy3⟩) (by assumption) ?rarest3
        case rahy3 => (intro w hSw; (try dsimp only at hSw); go_simp; try with_reducible rfl)
        try simp only [Act.put, List.getElem_toArray, List.getElem_cons_succ, List.getElem_cons_zero, List.setIfInBounds_toArray, List.set_cons_zero, List.set_cons_succ]
        refine wpAnyH_take (i := 4) (v := ?rav4) rfl (by kernel_rfl) (by kernel_rfl) (by kernel_rfl) (by intro _ _ _ h; exact h) (Or.inl ⟨by rfl, ?rahy4⟩) (by assumption) ?rarest4
        case rahy4 => (intro w hSw; (try dsimp only at hSw); go_simp; try with_reducible rfl)
        try simp only [Act.put, List.getElem_toArray, List.getElem_cons_succ, List.getElem_cons_zero, List.setIfInBounds_toArray, List.set_cons_zero, List.set_cons_succ]
        refine wpAnyH_take (i := 5) (v := ?rav5) rfl (by kernel_rfl) (by kernel_rfl) (by kernel_rfl) (by intro _ _ _ h; exact h) (Or.inl ⟨by rfl, ?rahy5⟩) (by assumption) ?rarest5
        case rahy5 => (intro w hSw; (try dsimp only at hSw); go_simp; try with_reducible rfl)
        try simp only [Act.put, List.getElem_toArray, List.getElem_cons_succ, List.getElem_cons_zero, List.setIfInBounds_toArray, List.set_cons_zero, List.set_cons_succ]
        refine wpAnyH_take (i := 6) (v := ?rav6) rfl (by kernel_rfl) (by kernel_rfl) (by kernel_rfl) (by intro _ _ _ h; exact h) (Or.inl ⟨by rfl, ?rahy6⟩) (by assumption) ?rarest6
        case rahy6 => (intro w hSw; (try dsimp only at hSw); go_simp; try with_reducible rfl)
        try simp only [Act.put, List.getElem_toArray, List.getElem_cons_succ, List.getElem_cons_zero, List.setIfInBounds_toArray, List.set_cons_zero, List.set_cons_succ]
        refine wpAnyH_ready (rs := [0, 7]) (by kernel_rfl) (by simp) ?_
        refine AllReadyH.cons rfl (fun K hK => ?_) (AllReadyH.cons rfl (fun K hK => ?_) AllReadyH.nil)
        · skip
          go_simp
          go_wp2_with (fail)
          refine hK.out _ _ (by first | exact ct | exact ct5 | exact ct6 | exact ct7) (fun hHeld => ?_)
          clear hK K
          refine wpAnyH_ready (rs := [7]) (by kernel_rfl) (by simp) ?_
          refine AllReadyH.cons rfl (fun K hK => ?_) AllReadyH.nil
          go_simp
          go_wp2_with ((go_at_call 95; refine (HWH.out _ hsd).mono ?_; rintro _ w25 ⟨A25, n25, c25, rfl, o25, b25⟩; have hX25 := hXd.below b25 hxd; have ct5 := And.intro (hX25.cell 0) (And.intro (hX25.cell 1) (hX25.cell 2)); have hB25 := hBd.below b25 hgd; have q025 := hB25.cell 0; have hO25 := hOd.below b25; have hz25 := b25.size))
          refine hK.out _ _ (by first | exact ct | exact ct5 | exact ct6 | exact ct7) (fun hHeld => ?_)
          clear hK K
          refine wpAnyH_ready (rs := [8]) (by kernel_rfl) (by simp) ?_
          refine AllReadyH.cons rfl (fun K hK => ?_) AllReadyH.nil
          refine step_app rfl (.tmp 100) (.tmp 107) _ rfl 5 Tryd.underlying40 u8info B A0 n0 c0 acc (by rfl) hO25 w25.heap.size A25 n25 c25 val (by rfl) o25.bs (by have h1 := HAL.out; have h2 := HVL.out; omega) (Nat.le_trans hBd2 hz25) ?_; intro A26 n26 c26 w26 o26 b26 g26; have hX26 := hX25.grown g26 (by intro e; first | exact own_blk_ne hO25.2 hX25 (by decide) e | exact own_blk_ne hO25.2 hX25 (by decide) e.symm); have ct6 := And.intro (hX26.cell 0) (And.intro (hX26.cell 1) (hX26.cell 2)); have hB26 := hB25.grown g26 (by intro e; first | exact own_blk_ne hO25.2 hB25 (by decide) e | exact own_blk_ne hO25.2 hB25 (by decide) e.symm); have f26 := hB26.frozen 0; have q026 := hB26.cell 0; have hX27 := hX26.far (p := ⟨go, 0, none⟩) (by show xq ≠ go; omega) (.slice A26 n26 c26); have ct7 := And.intro (hX27.cell 0) (And.intro (hX27.cell 1) (hX27.cell 2))
          refine hK.out _ _ ?_ (fun hHeld => ?_)
          · try dsimp only
            first | exact ct | exact ct5 | exact ct6 | exact ct7
          clear hK K
          refine wpAnyH_ready (rs := [9]) (by kernel_rfl) (by simp) ?_
          refine AllReadyH.cons rfl (fun K hK => ?_) AllReadyH.nil
          go_simp
          go_wp2_with (fail)
          refine hK.out _ _ ?_ (fun hHeld => ?_)
          · try dsimp only
            first | exact ct | exact ct5 | exact ct6 | exact ct7
          clear hK K
          refine wpAnyH_done (by kernel_rfl) ?_ _
          refine HKK.out _ _ ?_
          have HNX := Lib.hid (show acc ++ val = a22 ++ (raws.take (j + 1)).flatMap (fun x => attrB x.1 x.2.1 x.2.2) by rw [HTA.out, ← HV.out, HAC.out, List.append_assoc])
          have HNL := Lib.hid (show (acc ++ val).length ≤ 24000 + 3000 * (j + 1) by have h1 := HAL.out; have h2 := HVL.out; rw [List.length_append]; omega)
          have Pz := PO.stored hB26 o26
          have smz := (((sma.below ((Below.refl wx.heap.size wx).drew) hBd2).below b25 hBd2).below b26 (Nat.le_refl _)).setCell (p := ⟨go, 0, none⟩) (.inr (by simp)) (.slice A26 n26 c26)
          obtain ⟨wz, hwz⟩ : ∃ W, w26.setCell ⟨go, 0, none⟩ (.slice A26 n26 c26) = W := ⟨_, rfl⟩
          rw [hwz] at Pz smz
          rw [hwz]
          clear hwz q026 f26 ct7 ct6 hHeld
          go_wp2_with fail
          go_roundw
          case rel => exact ⟨j + 1, _, by omega, by go_num, Pz, smz, HNX, HNL⟩
          case measure => simp [intOf]; omega
        · skip
          go_simp
          go_wp2_with ((go_at_call 95; refine (HWH.out _ hsd).mono ?_; rintro _ w25 ⟨A25, n25, c25, rfl, o25, b25⟩; have hX25 := hXd.below b25 hxd; have ct5 := And.intro (hX25.cell 0) (And.intro (hX25.cell 1) (hX25.cell 2)); have hB25 := hBd.below b25 hgd; have q025 := hB25.cell 0; have hO25 := hOd.below b25; have hz25 := b25.size))
          refine hK.out _ _ (by first | exact ct | exact ct5 | exact ct6 | exact ct7) (fun hHeld => ?_)
          clear hK K
          refine wpAnyH_ready (rs := [0]) (by kernel_rfl) (by simp) ?_
          refine AllReadyH.cons rfl (fun K hK => ?_) AllReadyH.nil
          go_simp
          go_wp2_with (fail)
          refine hK.out _ _ (by first | exact ct | exact ct5 | exact ct6 | exact ct7) (fun hHeld => ?_)
          clear hK K
          refine wpAnyH_ready (rs := [8]) (by kernel_rfl) (by simp) ?_
          refine AllReadyH.cons rfl (fun K hK => ?_) AllReadyH.nil
          refine step_app rfl (.tmp 100) (.tmp 107) _ rfl 5 Tryd.underlying40 u8info B A0 n0 c0 acc (by rfl) hO25 w25.heap.size A25 n25 c25 val (by rfl) o25.bs (by have h1 := HAL.out; have h2 := HVL.out; omega) (Nat.le_trans hBd2 hz25) ?_; intro A26 n26 c26 w26 o26 b26 g26; have hX26 := hX25.grown g26 (by intro e; first | exact own_blk_ne hO25.2 hX25 (by decide) e | exact own_blk_ne hO25.2 hX25 (by decide) e.symm); have ct6 := And.intro (hX26.cell 0) (And.intro (hX26.cell 1) (hX26.cell 2)); have hB26 := hB25.grown g26 (by intro e; first | exact own_blk_ne hO25.2 hB25 (by decide) e | exact own_blk_ne hO25.2 hB25 (by decide) e.symm); have f26 := hB26.frozen 0; have q026 := hB26.cell 0; have hX27 := hX26.far (p := ⟨go, 0, none⟩) (by show xq ≠ go; omega) (.slice A26 n26 c26); have ct7 := And.intro (hX27.cell 0) (And.intro (hX27.cell 1) (hX27.cell 2))
          refine hK.out _ _ ?_ (fun hHeld => ?_)
          · try dsimp only
            first | exact ct | exact ct5 | exact ct6 | exact ct7
          clear hK K
          refine wpAnyH_ready (rs := [9]) (by kernel_rfl) (by simp) ?_
          refine AllReadyH.cons rfl (fun K hK => ?_) AllReadyH.nil
          go_simp
          go_wp2_with (fail)
          refine hK.out _ _ ?_ (fun hHeld => ?_)
          · try dsimp only
            first | exact ct | exact ct5 | exact ct6 | exact ct7
          clear hK K
          refine wpAnyH_done (by kernel_rfl) ?_ _
          refine HKK.out _ _ ?_
          have HNX := Lib.hid (show acc ++ val = a22 ++ (raws.take (j + 1)).flatMap (fun x => attrB x.1 x.2.1 x.2.2) by rw [HTA.out, ← HV.out, HAC.out, List.append_assoc])
          have HNL := Lib.hid (show (acc ++ val).length ≤ 24000 + 3000 * (j + 1) by have h1 := HAL.out; have h2 := HVL.out; rw [List.length_append]; omega)
          have Pz := PO.stored hB26 o26
          have smz := (((sma.below ((Below.refl wx.heap.size wx).drew) hBd2).below b25 hBd2).below b26 (Nat.le_refl _)).setCell (p := ⟨go, 0, none⟩) (.inr (by simp)) (.slice A26 n26 c26)
          obtain ⟨wz, hwz⟩ : ∃ W, w26.setCell ⟨go, 0, none⟩ (.slice A26 n26 c26) = W := ⟨_, rfl⟩
          rw [hwz] at Pz smz
          rw [hwz]
          clear hwz q026 f26 ct7 ct6 hHeld
          go_wp2_with fail
          go_roundw
          case rel => exact ⟨j + 1, _, by omega, by go_num, Pz, smz, HNX, HNL⟩
          case measure => simp [intOf]; omega
      have d1 : decide ((j : Int) < n2) = false := decide_eq_false (by omega)
      have d1' : decide (j < n2) = false := decide_eq_false hlt
      have E24 := Lib.hid (show acc = a22 ++ raws.flatMap (fun x => attrB x.1 x.2.1 x.2.2) by have := HAC.out; rwa [List.take_of_length_le (by have := HN.out; omega)] at this)
      have Kl24 : acc.length ≤ 48000 := by have h1 := HAL.out; have h2 : raws.length ≤ 8 := HRG.out.2.2.2.2.2.2.2; have := HN.out; omega
      obtain ⟨w24, hw24⟩ : ∃ w', w' = wr := ⟨_, rfl⟩
      subst hw24
      have Pn24 := Pr
      have sm24 := smr
      clear hlt hj Pr smr x10 Pn22 sm22
      have X_24 := sm24.blk HX5.out hqB hqn
      have HZ_24 := Lib.hid (show B ≤ w24.heap.size from Nat.le_trans (Nat.le_of_eq HBE.out.symm) sm24.size)
      have x1 : w24.cell? ⟨q, 1, none⟩ = some (.slice A n c) := X_24.cell 1
      obtain ⟨bn, hbn⟩ : ∃ bn, bigN (flatA path) = bn := ⟨_, rfl⟩
      have HBN := Lib.hid hbn
      have HWD := Lib.hid (show ∀ w', DL rSeg 2 w' (Lo w') A n path → Calls Tryd.prog 97 #[.slice A n c] w' fun en w'' => en = .returned (.bool bn) ∧ Below w'.heap.size w' w'' from fun w' h => by rw [← hbn]; exact attWide A n c path w' h (by omega) hs)
      have HPT := Lib.hid (show ∀ w', DL rSeg 2 w' (Lo w') A n path → Calls Tryd.prog 38 #[.slice A n c, .bool true] w' (RetB w' 5 (putA true path)) from fun w' h => aspPut A n c path true w' h hn hs)
      have cx0 : w24.drew.cell? ⟨q, 1, none⟩ = some (.slice A n c) := x1
      have Pd : PO w24.drew go B acc := Pn24
      have smd : Sm B [go] w5 w24.drew := sm24.trans (Sm.of_below ((Below.refl w24.heap.size w24).drew) HZ_24.out)
      have hqd : q < w24.drew.heap.size := Nat.lt_of_lt_of_le hqB HZ_24.out
      have hBd : B ≤ w24.drew.heap.size := HZ_24.out
      clear x1 hbn
      go_upto_region 27 with fail
      rename_i hk
      have HKK := Lib.hid hk
      clear hk
      refine wp_region_held_drew (S := (fun w' => w'.cell? ⟨q, 1, none⟩ = some (.slice A n c))) (by kernel_rfl) ?_ (fun hHeld => ?_)
      · first | exact cx0 | exact cx25 | exact cx26 | exact cx28
      refine wpAnyH_take (i := 0) (v := ?wav0) rfl (by kernel_rfl) (by kernel_rfl) (by kernel_rfl) (by intro _ _ _ h; exact h) (Or.inl ⟨by rfl, ?wahy0⟩) (by assumption) ?warest0
      case wahy0 => (intro w hSw; (try dsimp only at hSw); go_simp; try with_reducible rfl)
      try simp only [Act.put, List.getElem_toArray, List.getElem_cons_succ, List.getElem_cons_zero, List.setIfInBounds_toArray, List.set_cons_zero, List.set_cons_succ]
      refine wpAnyH_take (i := 1) (v := ?wav1) rfl (by kernel_rfl) (by kernel_rfl) (by kernel_rfl) (by intro _ _ _ h; exact h) (Or.inl ⟨by rfl, ?wahy1⟩) (by assumption) ?warest1
      case wahy1 => (intro w hSw; (try dsimp only at hSw); go_simp; try with_reducible rfl)
      try simp only [Act.put, List.getElem_toArray, List.getElem_cons_succ, List.getElem_cons_zero, List.setIfInBounds_toArray, List.set_cons_zero, List.set_cons_succ]
      refine wpAnyH_take (i := 2) (v := ?wav2) rfl (by kernel_rfl) (by kernel_rfl) (by kernel_rfl) (by intro _ _ _ h; exact h) (Or.inl ⟨by rfl, ?wahy2⟩) (by assumption) ?warest2
      case wahy2 => (intro w hSw; (try dsimp only at hSw); go_simp; try with_reducible rfl)
      try simp only [Act.put, List.getElem_toArray, List.getElem_cons_succ, List.getElem_cons_zero, List.setIfInBounds_toArray, List.set_cons_zero, List.set_cons_succ]
      refine wpAnyH_take (i := 3) (v := ?wav3) rfl (by kernel_rfl) (by kernel_rfl) (by kernel_rfl) (by intro _ _ _ h; exact h) (Or.inl ⟨by rfl, ?wahy3⟩) (by assumption) ?warest3
      case wahy3 => (intro w hSw; (try dsimp only at hSw); go_simp; try with_reducible rfl)
      try simp only [Act.put, List.getElem_toArray, List.getElem_cons_succ, List.getElem_cons_zero, List.setIfInBounds_toArray, List.set_cons_zero, List.set_cons_succ]
      refine wpAnyH_take (i := 4) (v := undef) rfl (by kernel_rfl) (by kernel_rfl) (by kernel_rfl) (by intro _ _ _ h; exact h) (Or.inr ⟨by rfl, rfl⟩) (by assumption) ?_
      try simp only [Act.put, List.getElem_toArray, List.getElem_cons_succ, List.getElem_cons_zero, List.setIfInBounds_toArray, List.set_cons_zero, List.set_cons_succ]
      refine wpAnyH_take (i := 5) (v := undef) rfl (by kernel_rfl) (by kernel_rfl) (by kernel_rfl) (by intro _ _ _ h; exact h) (Or.inr ⟨by rfl, rfl⟩) (by assumption) ?_
      try simp only [Act.put, List.getElem_toArray, List.getElem_cons_succ, List.getElem_cons_zero, List.setIfInBounds_toArray, List.set_cons_zero, List.set_cons_succ]
      refine wpAnyH_take (i := 6) (v := undef) rfl (by kernel_rfl) (by kernel_rfl) (by kernel_rfl) (by intro _ _ _ h; exact h) (Or.inr ⟨by rfl, rfl⟩) (by assumption) ?_
      try simp only [Act.put, List.getElem_toArray, List.getElem_cons_succ, List.getElem_cons_zero, List.setIfInBounds_toArray, List.set_cons_zero, List.set_cons_succ]
      refine wpAnyH_take (i := 7) (v := ?wav7) rfl (by kernel_rfl) (by kernel_rfl) (by kernel_rfl) (by intro _ _ _ h; exact h) (Or.inl ⟨by rfl, ?wahy7⟩) (by assumption) ?warest7
      case wahy7 => (intro w hSw; (try dsimp only at hSw); go_simp; try with_reducible rfl)
      try simp only [Act.put, List.getElem_toArray, List.getElem_cons_succ, List.getElem_cons_zero, List.setIfInBounds_toArray, List.set_cons_zero, List.set_cons_succ]
      refine wpAnyH_take (i := 8) (v := ?wav8) rfl (by kernel_rfl) (by kernel_rfl) (by kernel_rfl) (by intro _ _ _ h; exact h) (Or.inl ⟨by rfl, ?wahy8⟩) (by assumption) ?warest8
      case wahy8 => (intro w hSw; (try dsimp only at hSw); go_simp; try with_reducible rfl)
      try simp only [Act.put, List.getElem_toArray, List.getElem_cons_succ, List.getElem_cons_zero, List.setIfInBounds_toArray, List.set_cons_zero, List.set_cons_succ]
      refine wpAnyH_take (i := 9) (v := ?wav9) rfl (by kernel_rfl) (by kernel_rfl) (by kernel_rfl) (by intro _ _ _ h; exact h) (Or.inl ⟨by rfl, ?wahy9⟩) (by assumption) ?warest9
      case wahy9 => (intro w hSw; (try dsimp only at hSw); go_simp; try with_reducible rfl)
      try simp only [Act.put, List.getElem_toArray, List.getElem_cons_succ, List.getElem_cons_zero, List.setIfInBounds_toArray, List.set_cons_zero, List.set_cons_succ]
      refine wpAnyH_ready (rs := [10]) (by kernel_rfl) (by simp) ?_
      refine AllReadyH.cons rfl (fun K hK => ?_) AllReadyH.nil
      go_simp
      go_wp2_with (go_at_call 38; refine (HPT.out _ (HPK.out _ smd)).mono ?_; rintro _ w26 ⟨A26, n26, c26, rfl, o26, b26⟩; have hB26 : B ≤ w26.heap.size := Nat.le_trans hBd b26.size; have cx26 := (b26.cell (p := ⟨q, 1, none⟩) (Nat.lt_of_lt_of_le hqB hBd)).trans cx0; have sm26 := smd.below b26 hBd; have P26 := Pd.call b26)
      refine hK.out _ _ ?_ (fun hHeld => ?_)
      · try dsimp only
        first | exact cx0 | exact cx25 | exact cx26 | exact cx28
      clear hK K
      refine wpAnyH_ready (rs := [11]) (by kernel_rfl) (by simp) ?_
      refine AllReadyH.cons rfl (fun K hK => ?_) AllReadyH.nil
      go_simp; go_wp2_with fail; refine (attPut1 false 17 192 A26 n26 c26 (putA true path) w26 go B acc (by omega) (by omega) (by decide) P26 (hB26) (o26.bs) (by have := (HPL.out.2); omega) (by have := Kl24; omega) (HTK.out _ sm26) hgog htB).mono ?_; rintro _ w28 ⟨rfl, Pn28, sc28⟩; have sm28 := sm26.trans sc28; have cx28 := (sm28.blk HX5.out hqB hqn).cell 1; try dsimp only
      refine hK.out _ _ ?_ (fun hHeld => ?_)
      · try dsimp only
        first | exact cx0 | exact cx25 | exact cx26 | exact cx28
      clear hK K
      refine wpAnyH_done (by kernel_rfl) ?_ _
      refine HKK.out _ _ ?_
      clear hHeld sc28 cx28
      obtain ⟨a28, ha28⟩ : ∃ a, (acc ++ if false = true then attrB 192 ((17 : Nat) : Int) (putA true path) else []) = a := ⟨_, rfl⟩
      have Kl28 : a28.length ≤ 51000 := by rw [← ha28]; exact put_len Kl24 (HPL.out.2)
      rw [ha28] at Pn28
      have E28 := Lib.hid ha28
      clear ha28
      have X_28 := sm28.blk HX5.out hqB hqn
      have HZ_28 := Lib.hid (show B ≤ w28.heap.size from Nat.le_trans (Nat.le_of_eq HBE.out.symm) sm28.size)
      have x7 : w28.cell? ⟨q, 7, none⟩ = some (.int .u32 gs) := X_28.cell 7
      have x8 : w28.cell? ⟨q, 8, none⟩ = some (.int .u32 ga) := X_28.cell 8
      obtain ⟨bg, hbg⟩ : ∃ bg, decide (65535 < gs) = bg := ⟨_, rfl⟩
      have HBG := Lib.hid hbg
      have cy0 : w28.drew.cell? ⟨q, 7, none⟩ = some (.int .u32 gs) ∧ w28.drew.cell? ⟨q, 8, none⟩ = some (.int .u32 ga) := ⟨x7, x8⟩
      have Pe : PO w28.drew go B a28 := Pn28
      have sme : Sm B [go] w5 w28.drew := sm28.trans (Sm.of_below ((Below.refl w28.heap.size w28).drew) HZ_28.out)
      have hqe : q < w28.drew.heap.size := Nat.lt_of_lt_of_le hqB HZ_28.out
      clear x7 x8
      go_upto_region 28 with fail
      rename_i hk
      have HKK := Lib.hid hk
      clear hk
      refine wp_region_held_drew (S := (fun w' => w'.cell? ⟨q, 7, none⟩ = some (.int .u32 gs) ∧ w'.cell? ⟨q, 8, none⟩ = some (.int .u32 ga))) (by kernel_rfl) ?_ (fun hHeld => ?_)
      · first | exact cy0 | exact cy1 | exact cy2 | exact cy3
      refine wpAnyH_take (i := 0) (v := ?z358v0) rfl (by kernel_rfl) (by kernel_rfl) (by kernel_rfl) (by intro _ _ _ h; exact h) (Or.inl ⟨by rfl, ?z358hy0⟩) (by assumption) ?z358rest0
      case z358hy0 => (intro w hSw; (try dsimp only at hSw); go_simp; try with_reducible rfl)
      try simp only [Act.put, List.getElem_toArray, List.getElem_cons_succ, List.getElem_cons_zero, List.setIfInBounds_toArray, List.set_cons_zero, List.set_cons_succ]
      refine wpAnyH_take (i := 1) (v := ?z358v1) rfl (by kernel_rfl) (by kernel_rfl) (by kernel_rfl) (by intro _ _ _ h; exact h) (Or.inl ⟨by rfl, ?z358hy1⟩) (by assumption) ?z358rest1
      case z358hy1 => (intro w hSw; (try dsimp only at hSw); go_simp; try with_reducible rfl)
      try simp only [Act.put, List.getElem_toArray, List.getElem_cons_succ, List.getElem_cons_zero, List.setIfInBounds_toArray, List.set_cons_zero, List.set_cons_succ]
      refine wpAnyH_take (i := 2) (v := ?z358v2) rfl (by kernel_rfl) (by kernel_rfl) (by kernel_rfl) (by intro _ _ _ h; exact h) (Or.inl ⟨by rfl, ?z358hy2⟩) (by assumption) ?z358rest2
      case z358hy2 => (intro w hSw; (try dsimp only at hSw); go_simp; try with_reducible rfl)
      try simp only [Act.put, List.getElem_toArray, List.getElem_cons_succ, List.getElem_cons_zero, List.setIfInBounds_toArray, List.set_cons_zero, List.set_cons_succ]
      refine wpAnyH_take (i := 3) (v := ?z358v3) rfl (by kernel_rfl) (by kernel_rfl) (by kernel_rfl) (by intro _ _ _ h; exact h) (Or.inl ⟨by rfl, ?z358hy3⟩) (by assumption) ?z358rest3
      case z358hy3 => (intro w hSw; (try dsimp only at hSw); go_simp; try with_reducible rfl)
      try simp only [Act.put, List.getElem_toArray, List.getElem_cons_succ, List.getElem_cons_zero, List.setIfInBounds_toArray, List.set_cons_zero, List.set_cons_succ]
      refine wpAnyH_take (i := 4) (v := undef) rfl (by kernel_rfl) (by kernel_rfl) (by kernel_rfl) (by intro _ _ _ h; exact h) (Or.inr ⟨by rfl, rfl⟩) (by assumption) ?_
      try simp only [Act.put, List.getElem_toArray, List.getElem_cons_succ, List.getElem_cons_zero, List.setIfInBounds_toArray, List.set_cons_zero, List.set_cons_succ]
      refine wpAnyH_take (i := 5) (v := undef) rfl (by kernel_rfl) (by kernel_rfl) (by kernel_rfl) (by intro _ _ _ h; exact h) (Or.inr ⟨by rfl, rfl⟩) (by assumption) ?_
      try simp only [Act.put, List.getElem_toArray, List.getElem_cons_succ, List.getElem_cons_zero, List.setIfInBounds_toArray, List.set_cons_zero, List.set_cons_succ]
      refine wpAnyH_take (i := 6) (v := undef) rfl (by kernel_rfl) (by kernel_rfl) (by kernel_rfl) (by intro _ _ _ h; exact h) (Or.inr ⟨by rfl, rfl⟩) (by assumption) ?_
      try simp only [Act.put, List.getElem_toArray, List.getElem_cons_succ, List.getElem_cons_zero, List.setIfInBounds_toArray, List.set_cons_zero, List.set_cons_succ]
      refine wpAnyH_take (i := 7) (v := ?z358v7) rfl (by kernel_rfl) (by kernel_rfl) (by kernel_rfl) (by intro _ _ _ h; exact h) (Or.inl ⟨by rfl, ?z358hy7⟩) (by assumption) ?z358rest7
      case z358hy7 => (intro w hSw; (try dsimp only at hSw); go_simp; try with_reducible rfl)
      try simp only [Act.put, List.getElem_toArray, List.getElem_cons_succ, List.getElem_cons_zero, List.setIfInBounds_toArray, List.set_cons_zero, List.set_cons_succ]
      refine wpAnyH_take (i := 8) (v := ?z358v8) rfl (by kernel_rfl) (by kernel_rfl) (by kernel_rfl) (by intro _ _ _ h; exact h) (Or.inl ⟨by rfl, ?z358hy8⟩) (by assumption) ?z358rest8
      case z358hy8 => (intro w hSw; (try dsimp only at hSw); go_simp; try with_reducible rfl)
      try simp only [Act.put, List.getElem_toArray, List.getElem_cons_succ, List.getElem_cons_zero, List.setIfInBounds_toArray, List.set_cons_zero, List.set_cons_succ]
      refine wpAnyH_take (i := 9) (v := ?z358v9) rfl (by kernel_rfl) (by kernel_rfl) (by kernel_rfl) (by intro _ _ _ h; exact h) (Or.inl ⟨by rfl, ?z358hy9⟩) (by assumption) ?z358rest9
      case z358hy9 => (intro w hSw; (try dsimp only at hSw); go_simp; try with_reducible rfl)
      try simp only [Act.put, List.getElem_toArray, List.getElem_cons_succ, List.getElem_cons_zero, List.setIfInBounds_toArray, List.set_cons_zero, List.set_cons_succ]
      refine wpAnyH_take (i := 11) (v := ?z358v11) rfl (by kernel_rfl) (by kernel_rfl) (by kernel_rfl) (by intro _ _ _ h; exact h) (Or.inl ⟨by rfl, ?z358hy11⟩) (by assumption) ?z358rest11
      case z358hy11 => (intro w hSw; (try dsimp only at hSw); go_simp; try with_reducible rfl)
      try simp only [Act.put, List.getElem_toArray, List.getElem_cons_succ, List.getElem_cons_zero, List.setIfInBounds_toArray, List.set_cons_zero, List.set_cons_succ]
      refine wpAnyH_take (i := 12) (v := ?z358v12) rfl (by kernel_rfl) (by kernel_rfl) (by kernel_rfl) (by intro _ _ _ h; exact h) (Or.inl ⟨by rfl, ?z358hy12⟩) (by assumption) ?z358rest12
      case z358hy12 => (intro w hSw; (try dsimp only at hSw); go_simp; try with_reducible rfl)
      try simp only [Act.put, List.getElem_toArray, List.getElem_cons_succ, List.getElem_cons_zero, List.setIfInBounds_toArray, List.set_cons_zero, List.set_cons_succ]
      refine wpAnyH_ready (rs := [10]) (by kernel_rfl) (by simp) ?_
      refine AllReadyH.cons rfl (fun K hK => ?_) AllReadyH.nil
      go_simp
      go_wp2_with (go_at_call 74; refine (octetPut32 none 0 0 [] gs _ ⟨rfl, Reads.none_⟩ (by simp) HWG.out.1 HWG.out.2).mono ?_; rintro _ w29 ⟨A29, n29, c29, rfl, o29, b29⟩; have cy1 := And.intro ((b29.cell (p := ⟨q, 7, none⟩) hqe).trans cy0.1) ((b29.cell (p := ⟨q, 8, none⟩) hqe).trans cy0.2); have sm29 := sme.below b29 HZ_28.out; have P29 := Pe.call b29; have hqf : q < w29.heap.size := Nat.lt_of_lt_of_le hqe b29.size; have hB29 : B ≤ w29.heap.size := Nat.le_trans HZ_28.out b29.size)
      refine hK.out _ _ ?_ (fun hHeld => ?_)
      · try dsimp only
        first | exact cy0 | exact cy1 | exact cy2 | exact cy3
      clear hK K
      refine wpAnyH_ready (rs := [13]) (by kernel_rfl) (by simp) ?_
      refine AllReadyH.cons rfl (fun K hK => ?_) AllReadyH.nil
      go_simp
      go_wp2_with (go_at_call 74; refine (octetPut32 A29 n29 c29 (b32 gs) ga _ o29.bs (by rw [b32_len]; omega) HWA.out.1 HWA.out.2).mono ?_; rintro _ w30 ⟨A30, n30, c30, rfl, o30, b30⟩; have cy2 := And.intro ((b30.cell (p := ⟨q, 7, none⟩) hqf).trans cy1.1) ((b30.cell (p := ⟨q, 8, none⟩) hqf).trans cy1.2); have sm30 := sm29.below b30 hB29; have P30 := P29.call b30; have hB30 : B ≤ w30.heap.size := Nat.le_trans hB29 b30.size)
      refine hK.out _ _ ?_ (fun hHeld => ?_)
      · try dsimp only
        first | exact cy0 | exact cy1 | exact cy2 | exact cy3
      clear hK K
      refine wpAnyH_ready (rs := [14]) (by kernel_rfl) (by simp) ?_
      refine AllReadyH.cons rfl (fun K hK => ?_) AllReadyH.nil
      go_simp; go_wp2_with fail; refine (attPut1 false 18 192 A30 n30 c30 (b32 gs ++ b32 ga) w30 go B a28 (by omega) (by omega) (by decide) P30 (hB30) (o30.bs) (by have := (show (b32 gs ++ b32 ga).length ≤ 2000 by rw [List.length_append, b32_len, b32_len]; omega); omega) (by have := Kl28; omega) (HTK.out _ sm30) hgog htB).mono ?_; rintro _ w32 ⟨rfl, Pn32, sc32⟩; have sm32 := sm30.trans sc32; have X32 := sm32.blk HX5.out hqB hqn; have cy3 := And.intro (X32.cell 7) (X32.cell 8); try dsimp only
      refine hK.out _ _ ?_ (fun hHeld => ?_)
      · try dsimp only
        first | exact cy0 | exact cy1 | exact cy2 | exact cy3
      clear hK K
      refine wpAnyH_done (by kernel_rfl) ?_ _
      refine HKK.out _ _ ?_
      clear hHeld sc32 cy0 cy1 cy2 cy3 X32
      obtain ⟨a32, ha32⟩ : ∃ a, (a28 ++ if false = true then attrB 192 ((18 : Nat) : Int) (b32 gs ++ b32 ga) else []) = a := ⟨_, rfl⟩
      have Kl32 : a32.length ≤ 54000 := by rw [← ha32]; exact put_len Kl28 (by rw [List.length_append, b32_len, b32_len]; omega)
      rw [ha32] at Pn32
      have E32 := Lib.hid ha32
      clear ha32
      obtain ⟨Az, nz, cz, hBz, hOz⟩ := Pn32
      have z0 : w32.cell? ⟨go, 0, none⟩ = some (.slice Az nz cz) := hBz.cell 0
      have HAL := Lib.hid (show attsB true (⟨o, path, nx, md, pf, at_, ha, gs, ga, comms, raws⟩ : At) = a32 by
        rw [← E32.out, ← E28.out, E24.out, ← E22.out, ← E20.out, ← E18.out, ← E16.out, ← E14.out, ← E12.out, ← E10.out, ← E8.out]
        unfold attsB onlyIf
        simp only [HDmd.out, HMmd.out, HDpf.out, HMpf.out, HDC.out, HBN.out, HBG.out]
        simp)
      clear hBz
      go_wp2_with fail
      go_ret2
      exact ⟨Az, nz, cz, by rw [HP.out]; rfl, by rw [HP.out, HAL.out]; exact hOz.low (by rw [← HBE.out]; exact Nat.le_trans HB5.out.size (Nat.le_refl _)), HBK.out _ sm32⟩
end Go.Proofs.YtlpkngjeihoknaaDoor
