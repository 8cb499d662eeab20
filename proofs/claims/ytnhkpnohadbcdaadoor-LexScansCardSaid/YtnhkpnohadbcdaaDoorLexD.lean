/- Walks of layer 13 (lex): the scanner outside quotes. Conditions: the table of digits. -/
import Derived.Test.YtnhkpnohadbcdaaDoorProg
import Derived.WalkKit
import Derived.WalkSpells
import Derived.WalkLawsBesides
import Derived.Outline
import Derived.Deep.QuietTactic
import Derived.BigQuiet
import Derived.Handy
import Derived.Lib.Hide
import Derived.Deep.DeepCutAuto
import Derived.Deep.CutBlock
import Derived.Test.YtnhkpnohadbcdaaDoorLexC
namespace Go.Proofs.YtnhkpnohadbcdaaDoor
open Go.RowKit
set_option linter.unusedSimpArgs false
set_option linter.unusedVariables false
noncomputable def outSt (st : Sc) (line : ByteArray) (i : Nat) (c : Int) : Sc :=
  if c = 32 then { st with out := if 0 ≤ st.frm then st.out ++ [wordOf (line.extract st.frm.toNat i)] else st.out, frm := -1, ended := false }
  else if st.ended = true ∨ (c = 34 ∧ 0 ≤ st.frm) then { st with bad := true }
  else if c = 34 then { st with within := true }
  else if st.frm < 0 then { st with frm := (i : Int) }
  else st
theorem wordOf_iface (s : ByteArray) : ∃ T x, (wordOf s).v = .iface T x := by
  unfold wordOf
  split
  · exact ⟨_, _, rfl⟩
  · exact ⟨_, _, rfl⟩
set_option maxHeartbeats 4000000 in
set_option maxRecDepth 100000 in
theorem lexOutside (line : ByteArray) (i : Nat) (c : Int) (w : World) (base g : Nat) (st : Sc) (h : SC w base g st) (ht : DigTab w) (hl : line.size ≤ 2000) (hi : i ≤ line.size) (hf : st.frm ≤ (i : Int)) (ho : st.out.length ≤ 100000) :
    Calls Tryd.prog 105 #[.pointer (some ⟨g, 0, none⟩), .string line, .int .i64 (i : Int), .int .i32 c] w (RetIn w base g (outSt st line i c)) := by
  obtain ⟨out, frm, q, within, escape, ended, bad⟩ := st
  obtain ⟨A1, n1, c1, A2, n2, c2, hS, h1, h2, hbg⟩ := h
  simp only at hS h1 h2 ho hf
  have hSl := hS.lt
  have hn1 : n1 ≤ 100000 := by have := h1.1; simp at this; omega
  by_cases e1 : c = 32
  · have t1 : (c == 32) = true := by simpa using e1
    by_cases e2 : 0 ≤ frm
    case neg =>
      have t2 : decide ((0 : Int) ≤ frm) = false := decide_eq_false e2
      have HE := Lib.hid (show outSt ⟨out, frm, q, within, escape, ended, bad⟩ line i c = ⟨out, -1, q, within, escape, false, bad⟩ by unfold outSt; simp [e1, e2])
      clear e1
      have cc1 := hS.cell 1
      have cc5 := hS.cell 5
      have ff1 := hS.frozen 1
      have ff5 := hS.frozen 5
      go_enter Tryd.func105, Tryd.ntmps105
      go_wp2_with fail
      have gs0 := only_setCell (World.grownBy.refl w (some g)) (p := ⟨g, 1, none⟩) (.inl rfl) (.int .i64 (-1))
      have hx0 := hS.set_ 1 (.int .i64 (-1))
      have gs1 := only_setCell (gs0) (p := ⟨g, 5, none⟩) (.inl rfl) (.bool false)
      have hx1 := hx0.set_ 5 (.bool false)
      simp only [List.setIfInBounds_toArray, List.set_cons_succ, List.set_cons_zero] at hx1
      have y1 := own_at h1 hS (by decide) gs1
      have y2 := own_at h2 hS (by decide) gs1
      have yb := ((Below.refl base w).setCell (p := ⟨g, 1, none⟩) hbg (.int .i64 (-1))).setCell (p := ⟨g, 5, none⟩) hbg (.bool false)
      have yI := ((ItK.refl w).trans (ItK.set hS 1 (.int .i64 (-1)))).trans (ItK.set hx0 5 (.bool false))
      go_returns
      exact ⟨rfl, by rw [HE.out]; exact ⟨A1, n1, c1, A2, n2, c2, hx1, y1, y2, hbg⟩, yb, yI⟩
    have t2 : decide ((0 : Int) ≤ frm) = true := decide_eq_true e2
    obtain ⟨F, rfl⟩ := Int.eq_ofNat_of_zero_le e2
    have hFi : F ≤ i := by omega
    obtain ⟨T, x, hV⟩ := wordOf_iface (line.extract F i)
    have HE := Lib.hid (show outSt ⟨out, (F : Int), q, within, escape, ended, bad⟩ line i c = ⟨out ++ [wordOf (line.extract F i)], -1, q, within, escape, false, bad⟩ by unfold outSt; simp [e1])
    have hV1 : (Value.iface T x).oneCell' = true := rfl
    have HV := Lib.hid hV
    have HWd := fun W (hT : DigTab W) => lexWord (line.extract F i) W hT (by rw [ByteArray.size_extract]; omega)
    rw [hV] at HWd
    have HW := Lib.hid HWd
    clear HWd hV e1
    have s0 : (0 : Int) ≤ (F : Int) := by omega
    have s1 : (F : Int) ≤ (i : Int) := by omega
    have s2 : (i : Int) ≤ (line.size : Int) := by omega
    have s3 : (0 : Int) ≤ (i : Int) := by omega
    have cc1 := hS.cell 1
    have cc0 := hS.cell 0
    have hSd := hS.drew
    have h1d : w.drew.ownsRow base 20 1 (.slice A1 n1 c1) n1 (out.map Tk.v) := h1
    have h2d : w.drew.ownsRow base 21 1 (.slice A2 n2 c2) n2 (q.map (Value.int .i32)) := h2
    have htd : DigTab w.drew := ht
    go_enter Tryd.func105, Tryd.ntmps105
    go_upto_region 2 with fail
    rename_i hk
    have HK := Lib.hid hk
    clear hk
    refine wp_region_held_drew (S := (fun w' => w'.cell? ⟨g, 1, none⟩ = some (.int .i64 (F : Int)))) (by kernel_rfl) ?_ (fun hHeld => ?_)
    · (first | exact hSd.cell 1 | exact hS2.cell 1 | exact hSa.cell 1 | exact hS3.cell 1 | exact hS4.cell 1)
    refine wpAnyH_take (i := 0) (v := ?q1v0) rfl (by kernel_rfl) (by kernel_rfl) (by kernel_rfl) (by intro _ _ _ h; exact h) (Or.inl ⟨by rfl, ?q1hy0⟩) (by assumption) ?q1rest0
    case q1hy0 => (intro w hSw; (try dsimp only at hSw); go_simp; try with_reducible rfl)
    try simp only [Act.put, List.getElem_toArray, List.getElem_cons_succ, List.getElem_cons_zero, List.setIfInBounds_toArray, List.set_cons_zero, List.set_cons_succ]
    refine wpAnyH_take (i := 1) (v := ?q1v1) rfl (by kernel_rfl) (by kernel_rfl) (by kernel_rfl) (by intro _ _ _ h; exact h) (Or.inl ⟨by rfl, ?q1hy1⟩) (by assumption) ?q1rest1
    case q1hy1 => (intro w hSw; (try dsimp only at hSw); go_simp; try with_reducible rfl)
    try simp only [Act.put, List.getElem_toArray, List.getElem_cons_succ, List.getElem_cons_zero, List.setIfInBounds_toArray, List.set_cons_zero, List.set_cons_succ]
    refine wpAnyH_take (i := 2) (v := ?q1v2) rfl (by kernel_rfl) (by kernel_rfl) (by kernel_rfl) (by intro _ _ _ h; exact h) (Or.inl ⟨by rfl, ?q1hy2⟩) (by assumption) ?q1rest2
    case q1hy2 => (intro w hSw; (try dsimp only at hSw); go_simp; try with_reducible rfl)
    try simp only [Act.put, List.getElem_toArray, List.getElem_cons_succ, List.getElem_cons_zero, List.setIfInBounds_toArray, List.set_cons_zero, List.set_cons_succ]
    refine wpAnyH_take (i := 3) (v := ?q1v3) rfl (by kernel_rfl) (by kernel_rfl) (by kernel_rfl) (by intro _ _ _ h; exact h) (Or.inl ⟨by rfl, ?q1hy3⟩) (by assumption) ?q1rest3
    case q1hy3 => (intro w hSw; (try dsimp only at hSw); go_simp; try with_reducible rfl)
    try simp only [Act.put, List.getElem_toArray, List.getElem_cons_succ, List.getElem_cons_zero, List.setIfInBounds_toArray, List.set_cons_zero, List.set_cons_succ]
    refine wpAnyH_take (i := 5) (v := ?q1v5) rfl (by kernel_rfl) (by kernel_rfl) (by kernel_rfl) (by intro _ _ _ h; exact h) (Or.inl ⟨by rfl, ?q1hy5⟩) (by assumption) ?q1rest5
    case q1hy5 => (intro w hSw; (try dsimp only at hSw); go_simp; try with_reducible rfl)
    try simp only [Act.put, List.getElem_toArray, List.getElem_cons_succ, List.getElem_cons_zero, List.setIfInBounds_toArray, List.set_cons_zero, List.set_cons_succ]
    refine wpAnyH_take (i := 6) (v := ?q1v6) rfl (by kernel_rfl) (by kernel_rfl) (by kernel_rfl) (by intro _ _ _ h; exact h) (Or.inl ⟨by rfl, ?q1hy6⟩) (by assumption) ?q1rest6
    case q1hy6 => (intro w hSw; (try dsimp only at hSw); go_simp; try with_reducible rfl)
    try simp only [Act.put, List.getElem_toArray, List.getElem_cons_succ, List.getElem_cons_zero, List.setIfInBounds_toArray, List.set_cons_zero, List.set_cons_succ]
    refine wpAnyH_take (i := 7) (v := ?q1v7) rfl (by kernel_rfl) (by kernel_rfl) (by kernel_rfl) (by intro _ _ _ h; exact h) (Or.inl ⟨by rfl, ?q1hy7⟩) (by assumption) ?q1rest7
    case q1hy7 => (intro w hSw; (try dsimp only at hSw); go_simp; try with_reducible rfl)
    try simp only [Act.put, List.getElem_toArray, List.getElem_cons_succ, List.getElem_cons_zero, List.setIfInBounds_toArray, List.set_cons_zero, List.set_cons_succ]
    refine wpAnyH_take (i := 8) (v := ?q1v8) rfl (by kernel_rfl) (by kernel_rfl) (by kernel_rfl) (by intro _ _ _ h; exact h) (Or.inl ⟨by rfl, ?q1hy8⟩) (by assumption) ?q1rest8
    case q1hy8 => (intro w hSw; (try dsimp only at hSw); go_simp; try with_reducible rfl)
    try simp only [Act.put, List.getElem_toArray, List.getElem_cons_succ, List.getElem_cons_zero, List.setIfInBounds_toArray, List.set_cons_zero, List.set_cons_succ]
    refine wpAnyH_take (i := 9) (v := ?q1v9) rfl (by kernel_rfl) (by kernel_rfl) (by kernel_rfl) (by intro _ _ _ h; exact h) (Or.inl ⟨by rfl, ?q1hy9⟩) (by assumption) ?q1rest9
    case q1hy9 => (intro w hSw; (try dsimp only at hSw); go_simp; try with_reducible rfl)
    try simp only [Act.put, List.getElem_toArray, List.getElem_cons_succ, List.getElem_cons_zero, List.setIfInBounds_toArray, List.set_cons_zero, List.set_cons_succ]
    refine wpAnyH_take (i := 10) (v := ?q1v10) rfl (by kernel_rfl) (by kernel_rfl) (by kernel_rfl) (by intro _ _ _ h; exact h) (Or.inl ⟨by rfl, ?q1hy10⟩) (by assumption) ?q1rest10
    case q1hy10 => (intro w hSw; (try dsimp only at hSw); go_simp; try with_reducible rfl)
    try simp only [Act.put, List.getElem_toArray, List.getElem_cons_succ, List.getElem_cons_zero, List.setIfInBounds_toArray, List.set_cons_zero, List.set_cons_succ]
    refine wpAnyH_take (i := 11) (v := ?q1v11) rfl (by kernel_rfl) (by kernel_rfl) (by kernel_rfl) (by intro _ _ _ h; exact h) (Or.inl ⟨by rfl, ?q1hy11⟩) (by assumption) ?q1rest11
    case q1hy11 => (intro w hSw; (try dsimp only at hSw); go_simp; try with_reducible rfl)
    try simp only [Act.put, List.getElem_toArray, List.getElem_cons_succ, List.getElem_cons_zero, List.setIfInBounds_toArray, List.set_cons_zero, List.set_cons_succ]
    obtain ⟨ii, hii, hiz, his, hib⟩ : ∃ i, Tryd.prog.info? 20 = some i ∧ i.zero = some .nilIface ∧ i.size = 1 ∧ i.bytes = 16 := by
      have := any_info
      simp only [Option.map_eq_some_iff, Prod.mk.injEq] at this
      exact this
    refine wpAnyH_ready (rs := [4, 12]) (by kernel_rfl) (by simp) ?_
    refine AllReadyH.cons rfl (fun K hK => ?_) (AllReadyH.cons rfl (fun K hK => ?_) AllReadyH.nil)
    · skip
      go_simp
      go_wp2_with (fail)
      refine hK.out _ _ ?_ (fun hHeld => ?_)
      · try dsimp only
        (first | exact hSd.cell 1 | exact hS2.cell 1 | exact hSa.cell 1 | exact hS3.cell 1 | exact hS4.cell 1)
      clear hK K
      refine wpAnyH_ready (rs := [12]) (by kernel_rfl) (by simp) ?_
      refine AllReadyH.cons rfl (fun K hK => ?_) AllReadyH.nil
      go_simp
      go_wp2_with (go_at_call 106; refine (HW.out _ htd).mono ?_; rintro _ w2 ⟨rfl, b2⟩; have hS2 := hSd.below b2 hSd.lt; have h12 := own_below h1d b2; have h22 := own_below h2d b2; have hSa := hS2.alloc (.cells #[.iface T x] 20); have h1a := own_alloc h12 (.cells #[.iface T x] 20); have h2a := own_alloc h22 (.cells #[.iface T x] 20); have kk0 := hS2.cell 0; have ka0 := hSa.cell 0; have z2 : w.heap.size ≤ w2.heap.size := b2.size)
      refine hK.out _ _ ?_ (fun hHeld => ?_)
      · try dsimp only
        (first | exact hSd.cell 1 | exact hS2.cell 1 | exact hSa.cell 1 | exact hS3.cell 1 | exact hS4.cell 1)
      clear hK K
      refine wpAnyH_ready (rs := [13]) (by kernel_rfl) (by simp) ?_
      refine AllReadyH.cons rfl (fun K hK => ?_) AllReadyH.nil
      go_simp
      go_wp2_with (fail)
      refine hK.out _ _ ?_ (fun hHeld => ?_)
      · try dsimp only
        (first | exact hSd.cell 1 | exact hS2.cell 1 | exact hSa.cell 1 | exact hS3.cell 1 | exact hS4.cell 1)
      clear hK K
      refine wpAnyH_ready (rs := [14]) (by kernel_rfl) (by simp) ?_
      refine AllReadyH.cons rfl (fun K hK => ?_) AllReadyH.nil
      refine step_append_any _ rfl (.tmp 20) (.tmp 29) 80 rfl base 20 ii .nilIface 1 16 Tryd.underlying80 hii hiz his hib rfl (by omega) (.slice A1 n1 c1) n1 _ (by rfl) h1a (w2.heap.size + 1) (some ⟨w2.heap.size, 0, none⟩) 1 1 [.iface T x] (by rfl) (one_reads (Blk.new w2 20 #[.iface T x])) (by intro u hu; simp at hu; subst hu; exact hV1) (by unfold maxLen; omega) (by omega) (by simp; omega) ?_; intro v3 w3 o3 g3 hat; obtain ⟨A3, c3, rfl⟩ := own_form o3; have hS3 := hSa.grown g3 (by intro e; first | exact own_blk_ne h1a hSa (by decide) e | exact own_blk_ne h1a hSa (by decide) e.symm); have h23 := own_own h2a h1a (by decide) g3; have f0 := hS3.frozen 0; have k0 := hS3.cell 0; have hS4 := hS3.set_ 0 (.slice A3 (n1 + 1) c3); have hg4 := only_setCell (World.grownBy.refl w3 (some g)) (p := ⟨g, 0, none⟩) (.inl rfl) (.slice A3 (n1 + 1) c3); have h24 := own_at h23 hS3 (by decide) hg4
      refine hK.out _ _ ?_ (fun hHeld => ?_)
      · try dsimp only
        (first | exact hSd.cell 1 | exact hS2.cell 1 | exact hSa.cell 1 | exact hS3.cell 1 | exact hS4.cell 1)
      clear hK K
      refine wpAnyH_take (i := 15) (v := ?qav15) rfl (by kernel_rfl) (by kernel_rfl) (by kernel_rfl) (by intro _ _ _ h; exact h) (Or.inl ⟨by rfl, ?qahy15⟩) (by assumption) ?qarest15
      case qahy15 => (intro w hSw; (try dsimp only at hSw); go_simp; try with_reducible rfl)
      try simp only [Act.put, List.getElem_toArray, List.getElem_cons_succ, List.getElem_cons_zero, List.setIfInBounds_toArray, List.set_cons_zero, List.set_cons_succ]
      refine wpAnyH_take (i := 16) (v := ?qav16) rfl (by kernel_rfl) (by kernel_rfl) (by kernel_rfl) (by intro _ _ _ h; exact h) (Or.inl ⟨by rfl, ?qahy16⟩) (by assumption) ?qarest16
      case qahy16 => (intro w hSw; (try dsimp only at hSw); go_simp; try with_reducible rfl)
      try simp only [Act.put, List.getElem_toArray, List.getElem_cons_succ, List.getElem_cons_zero, List.setIfInBounds_toArray, List.set_cons_zero, List.set_cons_succ]
      refine wpAnyH_ready (rs := [17]) (by kernel_rfl) (by simp) ?_
      refine AllReadyH.cons rfl (fun K hK => ?_) AllReadyH.nil
      go_simp
      go_wp2_with (fail)
      refine hK.out _ _ ?_ (fun hHeld => ?_)
      · try dsimp only
        (first | exact hSd.cell 1 | exact hS2.cell 1 | exact hSa.cell 1 | exact hS3.cell 1 | exact hS4.cell 1)
      clear hK K
      refine wpAnyH_done (by kernel_rfl) ?_ _
      refine HK.out _ _ ?_
      clear HK
      simp only [List.setIfInBounds_toArray, List.set_cons_succ, List.set_cons_zero] at hS4
      have ba := ((Below.refl base w).drew.trans (b2.mono (show base ≤ w.drew.heap.size by show base ≤ w.heap.size; omega))).alloc (show base ≤ w2.heap.size by omega) (.cells #[.iface T x] 20)
      have Ia : ItK w (w2.alloc (.cells #[.iface T x] 20)) := (ItK.below b2).trans (ItK.below ((Below.refl w2.heap.size w2).alloc (Nat.le_refl _) (.cells #[.iface T x] 20)))
      have b3 : Below base (w2.alloc (.cells #[.iface T x] 20)) w3 := ⟨g3.os, g3.tape, g3.output, g3.size, fun b hb => g3.block b (by show b < (w2.alloc _).heap.size; simp; omega) (fun e => by have := (h1a.lt b e.symm).1; omega)⟩
      have I3 := Ia.trans (ItK.own h1a g3)
      have o4 := own_at o3 hS3 (by decide) hg4
      have b4 := (ba.trans b3).setCell (p := ⟨g, 0, none⟩) hbg (.slice A3 (n1 + 1) c3)
      have I4 := I3.trans (ItK.set hS3 0 (.slice A3 (n1 + 1) c3))
      obtain ⟨w4, hw4⟩ : ∃ W, w3.setCell ⟨g, 0, none⟩ (.slice A3 (n1 + 1) c3) = W := ⟨_, rfl⟩
      rw [hw4] at hS4 o4 b4 I4 h24
      rw [hw4]
      clear hw4 cc0 cc1 kk0 ka0 f0 k0
      have m1 := hS4.cell 1
      have m5 := hS4.cell 5
      have f1 := hS4.frozen 1
      have f5 := hS4.frozen 5
      go_wp2_with fail
      have gs0 := only_setCell (World.grownBy.refl w4 (some g)) (p := ⟨g, 1, none⟩) (.inl rfl) (.int .i64 (-1))
      have hx0 := hS4.set_ 1 (.int .i64 (-1))
      have gs1 := only_setCell (gs0) (p := ⟨g, 5, none⟩) (.inl rfl) (.bool false)
      have hx1 := hx0.set_ 5 (.bool false)
      simp only [List.setIfInBounds_toArray, List.set_cons_succ, List.set_cons_zero] at hx1
      have y1 := own_at o4 hS4 (by decide) gs1
      have y2 := own_at h24 hS4 (by decide) gs1
      have yb := ((b4).setCell (p := ⟨g, 1, none⟩) hbg (.int .i64 (-1))).setCell (p := ⟨g, 5, none⟩) hbg (.bool false)
      have yI := ((I4).trans (ItK.set hS4 1 (.int .i64 (-1)))).trans (ItK.set hx0 5 (.bool false))
      go_returns
      exact ⟨rfl, by rw [HE.out]; exact ⟨A3, n1 + 1, c3, A2, n2, c2, hx1, by rw [List.map_append, List.map_singleton, HV.out]; exact y1, y2, hbg⟩, yb, yI⟩
    · skip
      go_simp
      go_wp2_with (go_at_call 106; refine (HW.out _ htd).mono ?_; rintro _ w2 ⟨rfl, b2⟩; have hS2 := hSd.below b2 hSd.lt; have h12 := own_below h1d b2; have h22 := own_below h2d b2; have hSa := hS2.alloc (.cells #[.iface T x] 20); have h1a := own_alloc h12 (.cells #[.iface T x] 20); have h2a := own_alloc h22 (.cells #[.iface T x] 20); have kk0 := hS2.cell 0; have ka0 := hSa.cell 0; have z2 : w.heap.size ≤ w2.heap.size := b2.size)
      refine hK.out _ _ ?_ (fun hHeld => ?_)
      · try dsimp only
        (first | exact hSd.cell 1 | exact hS2.cell 1 | exact hSa.cell 1 | exact hS3.cell 1 | exact hS4.cell 1)
      clear hK K
      refine wpAnyH_ready (rs := [4, 13]) (by kernel_rfl) (by simp) ?_
      refine AllReadyH.cons rfl (fun K hK => ?_) (AllReadyH.cons rfl (fun K hK => ?_) AllReadyH.nil)
      · skip
        go_simp
        go_wp2_with (fail)
        refine hK.out _ _ ?_ (fun hHeld => ?_)
        · try dsimp only
          (first | exact hSd.cell 1 | exact hS2.cell 1 | exact hSa.cell 1 | exact hS3.cell 1 | exact hS4.cell 1)
        clear hK K
        refine wpAnyH_ready (rs := [13]) (by kernel_rfl) (by simp) ?_
        refine AllReadyH.cons rfl (fun K hK => ?_) AllReadyH.nil
        go_simp
        go_wp2_with (fail)
        refine hK.out _ _ ?_ (fun hHeld => ?_)
        · try dsimp only
          (first | exact hSd.cell 1 | exact hS2.cell 1 | exact hSa.cell 1 | exact hS3.cell 1 | exact hS4.cell 1)
        clear hK K
        refine wpAnyH_ready (rs := [14]) (by kernel_rfl) (by simp) ?_
        refine AllReadyH.cons rfl (fun K hK => ?_) AllReadyH.nil
        refine step_append_any _ rfl (.tmp 20) (.tmp 29) 80 rfl base 20 ii .nilIface 1 16 Tryd.underlying80 hii hiz his hib rfl (by omega) (.slice A1 n1 c1) n1 _ (by rfl) h1a (w2.heap.size + 1) (some ⟨w2.heap.size, 0, none⟩) 1 1 [.iface T x] (by rfl) (one_reads (Blk.new w2 20 #[.iface T x])) (by intro u hu; simp at hu; subst hu; exact hV1) (by unfold maxLen; omega) (by omega) (by simp; omega) ?_; intro v3 w3 o3 g3 hat; obtain ⟨A3, c3, rfl⟩ := own_form o3; have hS3 := hSa.grown g3 (by intro e; first | exact own_blk_ne h1a hSa (by decide) e | exact own_blk_ne h1a hSa (by decide) e.symm); have h23 := own_own h2a h1a (by decide) g3; have f0 := hS3.frozen 0; have k0 := hS3.cell 0; have hS4 := hS3.set_ 0 (.slice A3 (n1 + 1) c3); have hg4 := only_setCell (World.grownBy.refl w3 (some g)) (p := ⟨g, 0, none⟩) (.inl rfl) (.slice A3 (n1 + 1) c3); have h24 := own_at h23 hS3 (by decide) hg4
        refine hK.out _ _ ?_ (fun hHeld => ?_)
        · try dsimp only
          (first | exact hSd.cell 1 | exact hS2.cell 1 | exact hSa.cell 1 | exact hS3.cell 1 | exact hS4.cell 1)
        clear hK K
        refine wpAnyH_take (i := 15) (v := ?qbv15) rfl (by kernel_rfl) (by kernel_rfl) (by kernel_rfl) (by intro _ _ _ h; exact h) (Or.inl ⟨by rfl, ?qbhy15⟩) (by assumption) ?qbrest15
        case qbhy15 => (intro w hSw; (try dsimp only at hSw); go_simp; try with_reducible rfl)
        try simp only [Act.put, List.getElem_toArray, List.getElem_cons_succ, List.getElem_cons_zero, List.setIfInBounds_toArray, List.set_cons_zero, List.set_cons_succ]
        refine wpAnyH_take (i := 16) (v := ?qbv16) rfl (by kernel_rfl) (by kernel_rfl) (by kernel_rfl) (by intro _ _ _ h; exact h) (Or.inl ⟨by rfl, ?qbhy16⟩) (by assumption) ?qbrest16
        case qbhy16 => (intro w hSw; (try dsimp only at hSw); go_simp; try with_reducible rfl)
        try simp only [Act.put, List.getElem_toArray, List.getElem_cons_succ, List.getElem_cons_zero, List.setIfInBounds_toArray, List.set_cons_zero, List.set_cons_succ]
        refine wpAnyH_ready (rs := [17]) (by kernel_rfl) (by simp) ?_
        refine AllReadyH.cons rfl (fun K hK => ?_) AllReadyH.nil
        go_simp
        go_wp2_with (fail)
        refine hK.out _ _ ?_ (fun hHeld => ?_)
        · try dsimp only
          (first | exact hSd.cell 1 | exact hS2.cell 1 | exact hSa.cell 1 | exact hS3.cell 1 | exact hS4.cell 1)
        clear hK K
        refine wpAnyH_done (by kernel_rfl) ?_ _
        refine HK.out _ _ ?_
        clear HK
        simp only [List.setIfInBounds_toArray, List.set_cons_succ, List.set_cons_zero] at hS4
        have ba := ((Below.refl base w).drew.trans (b2.mono (show base ≤ w.drew.heap.size by show base ≤ w.heap.size; omega))).alloc (show base ≤ w2.heap.size by omega) (.cells #[.iface T x] 20)
        have Ia : ItK w (w2.alloc (.cells #[.iface T x] 20)) := (ItK.below b2).trans (ItK.below ((Below.refl w2.heap.size w2).alloc (Nat.le_refl _) (.cells #[.iface T x] 20)))
        have b3 : Below base (w2.alloc (.cells #[.iface T x] 20)) w3 := ⟨g3.os, g3.tape, g3.output, g3.size, fun b hb => g3.block b (by show b < (w2.alloc _).heap.size; simp; omega) (fun e => by have := (h1a.lt b e.symm).1; omega)⟩
        have I3 := Ia.trans (ItK.own h1a g3)
        have o4 := own_at o3 hS3 (by decide) hg4
        have b4 := (ba.trans b3).setCell (p := ⟨g, 0, none⟩) hbg (.slice A3 (n1 + 1) c3)
        have I4 := I3.trans (ItK.set hS3 0 (.slice A3 (n1 + 1) c3))
        obtain ⟨w4, hw4⟩ : ∃ W, w3.setCell ⟨g, 0, none⟩ (.slice A3 (n1 + 1) c3) = W := ⟨_, rfl⟩
        rw [hw4] at hS4 o4 b4 I4 h24
        rw [hw4]
        clear hw4 cc0 cc1 kk0 ka0 f0 k0
        have m1 := hS4.cell 1
        have m5 := hS4.cell 5
        have f1 := hS4.frozen 1
        have f5 := hS4.frozen 5
        go_wp2_with fail
        have gs0 := only_setCell (World.grownBy.refl w4 (some g)) (p := ⟨g, 1, none⟩) (.inl rfl) (.int .i64 (-1))
        have hx0 := hS4.set_ 1 (.int .i64 (-1))
        have gs1 := only_setCell (gs0) (p := ⟨g, 5, none⟩) (.inl rfl) (.bool false)
        have hx1 := hx0.set_ 5 (.bool false)
        simp only [List.setIfInBounds_toArray, List.set_cons_succ, List.set_cons_zero] at hx1
        have y1 := own_at o4 hS4 (by decide) gs1
        have y2 := own_at h24 hS4 (by decide) gs1
        have yb := ((b4).setCell (p := ⟨g, 1, none⟩) hbg (.int .i64 (-1))).setCell (p := ⟨g, 5, none⟩) hbg (.bool false)
        have yI := ((I4).trans (ItK.set hS4 1 (.int .i64 (-1)))).trans (ItK.set hx0 5 (.bool false))
        go_returns
        exact ⟨rfl, by rw [HE.out]; exact ⟨A3, n1 + 1, c3, A2, n2, c2, hx1, by rw [List.map_append, List.map_singleton, HV.out]; exact y1, y2, hbg⟩, yb, yI⟩
      · skip
        go_simp
        go_wp2_with (fail)
        refine hK.out _ _ ?_ (fun hHeld => ?_)
        · try dsimp only
          (first | exact hSd.cell 1 | exact hS2.cell 1 | exact hSa.cell 1 | exact hS3.cell 1 | exact hS4.cell 1)
        clear hK K
        refine wpAnyH_ready (rs := [4]) (by kernel_rfl) (by simp) ?_
        refine AllReadyH.cons rfl (fun K hK => ?_) AllReadyH.nil
        go_simp
        go_wp2_with (fail)
        refine hK.out _ _ ?_ (fun hHeld => ?_)
        · try dsimp only
          (first | exact hSd.cell 1 | exact hS2.cell 1 | exact hSa.cell 1 | exact hS3.cell 1 | exact hS4.cell 1)
        clear hK K
        refine wpAnyH_ready (rs := [14]) (by kernel_rfl) (by simp) ?_
        refine AllReadyH.cons rfl (fun K hK => ?_) AllReadyH.nil
        refine step_append_any _ rfl (.tmp 20) (.tmp 29) 80 rfl base 20 ii .nilIface 1 16 Tryd.underlying80 hii hiz his hib rfl (by omega) (.slice A1 n1 c1) n1 _ (by rfl) h1a (w2.heap.size + 1) (some ⟨w2.heap.size, 0, none⟩) 1 1 [.iface T x] (by rfl) (one_reads (Blk.new w2 20 #[.iface T x])) (by intro u hu; simp at hu; subst hu; exact hV1) (by unfold maxLen; omega) (by omega) (by simp; omega) ?_; intro v3 w3 o3 g3 hat; obtain ⟨A3, c3, rfl⟩ := own_form o3; have hS3 := hSa.grown g3 (by intro e; first | exact own_blk_ne h1a hSa (by decide) e | exact own_blk_ne h1a hSa (by decide) e.symm); have h23 := own_own h2a h1a (by decide) g3; have f0 := hS3.frozen 0; have k0 := hS3.cell 0; have hS4 := hS3.set_ 0 (.slice A3 (n1 + 1) c3); have hg4 := only_setCell (World.grownBy.refl w3 (some g)) (p := ⟨g, 0, none⟩) (.inl rfl) (.slice A3 (n1 + 1) c3); have h24 := own_at h23 hS3 (by decide) hg4
        refine hK.out _ _ ?_ (fun hHeld => ?_)
        · try dsimp only
          (first | exact hSd.cell 1 | exact hS2.cell 1 | exact hSa.cell 1 | exact hS3.cell 1 | exact hS4.cell 1)
        clear hK K
        refine wpAnyH_take (i := 15) (v := ?qcv15) rfl (by kernel_rfl) (by kernel_rfl) (by kernel_rfl) (by intro _ _ _ h; exact h) (Or.inl ⟨by rfl, ?qchy15⟩) (by assumption) ?qcrest15
        case qchy15 => (intro w hSw; (try dsimp only at hSw); go_simp; try with_reducible rfl)
        try simp only [Act.put, List.getElem_toArray, List.getElem_cons_succ, List.getElem_cons_zero, List.setIfInBounds_toArray, List.set_cons_zero, List.set_cons_succ]
        refine wpAnyH_take (i := 16) (v := ?qcv16) rfl (by kernel_rfl) (by kernel_rfl) (by kernel_rfl) (by intro _ _ _ h; exact h) (Or.inl ⟨by rfl, ?qchy16⟩) (by assumption) ?qcrest16
        case qchy16 => (intro w hSw; (try dsimp only at hSw); go_simp; try with_reducible rfl)
        try simp only [Act.put, List.getElem_toArray, List.getElem_cons_succ, List.getElem_cons_zero, List.setIfInBounds_toArray, List.set_cons_zero, List.set_cons_succ]
        refine wpAnyH_ready (rs := [17]) (by kernel_rfl) (by simp) ?_
        refine AllReadyH.cons rfl (fun K hK => ?_) AllReadyH.nil
        go_simp
        go_wp2_with (fail)
        refine hK.out _ _ ?_ (fun hHeld => ?_)
        · try dsimp only
          (first | exact hSd.cell 1 | exact hS2.cell 1 | exact hSa.cell 1 | exact hS3.cell 1 | exact hS4.cell 1)
        clear hK K
        refine wpAnyH_done (by kernel_rfl) ?_ _
        refine HK.out _ _ ?_
        clear HK
        simp only [List.setIfInBounds_toArray, List.set_cons_succ, List.set_cons_zero] at hS4
        have ba := ((Below.refl base w).drew.trans (b2.mono (show base ≤ w.drew.heap.size by show base ≤ w.heap.size; omega))).alloc (show base ≤ w2.heap.size by omega) (.cells #[.iface T x] 20)
        have Ia : ItK w (w2.alloc (.cells #[.iface T x] 20)) := (ItK.below b2).trans (ItK.below ((Below.refl w2.heap.size w2).alloc (Nat.le_refl _) (.cells #[.iface T x] 20)))
        have b3 : Below base (w2.alloc (.cells #[.iface T x] 20)) w3 := ⟨g3.os, g3.tape, g3.output, g3.size, fun b hb => g3.block b (by show b < (w2.alloc _).heap.size; simp; omega) (fun e => by have := (h1a.lt b e.symm).1; omega)⟩
        have I3 := Ia.trans (ItK.own h1a g3)
        have o4 := own_at o3 hS3 (by decide) hg4
        have b4 := (ba.trans b3).setCell (p := ⟨g, 0, none⟩) hbg (.slice A3 (n1 + 1) c3)
        have I4 := I3.trans (ItK.set hS3 0 (.slice A3 (n1 + 1) c3))
        obtain ⟨w4, hw4⟩ : ∃ W, w3.setCell ⟨g, 0, none⟩ (.slice A3 (n1 + 1) c3) = W := ⟨_, rfl⟩
        rw [hw4] at hS4 o4 b4 I4 h24
        rw [hw4]
        clear hw4 cc0 cc1 kk0 ka0 f0 k0
        have m1 := hS4.cell 1
        have m5 := hS4.cell 5
        have f1 := hS4.frozen 1
        have f5 := hS4.frozen 5
        go_wp2_with fail
        have gs0 := only_setCell (World.grownBy.refl w4 (some g)) (p := ⟨g, 1, none⟩) (.inl rfl) (.int .i64 (-1))
        have hx0 := hS4.set_ 1 (.int .i64 (-1))
        have gs1 := only_setCell (gs0) (p := ⟨g, 5, none⟩) (.inl rfl) (.bool false)
        have hx1 := hx0.set_ 5 (.bool false)
        simp only [List.setIfInBounds_toArray, List.set_cons_succ, List.set_cons_zero] at hx1
        have y1 := own_at o4 hS4 (by decide) gs1
        have y2 := own_at h24 hS4 (by decide) gs1
        have yb := ((b4).setCell (p := ⟨g, 1, none⟩) hbg (.int .i64 (-1))).setCell (p := ⟨g, 5, none⟩) hbg (.bool false)
        have yI := ((I4).trans (ItK.set hS4 1 (.int .i64 (-1)))).trans (ItK.set hx0 5 (.bool false))
        go_returns
        exact ⟨rfl, by rw [HE.out]; exact ⟨A3, n1 + 1, c3, A2, n2, c2, hx1, by rw [List.map_append, List.map_singleton, HV.out]; exact y1, y2, hbg⟩, yb, yI⟩
  have t1 : (c == 32) = false := by simpa using e1
  cases ended
  case true =>
    have HE := Lib.hid (show outSt ⟨out, frm, q, within, escape, true, bad⟩ line i c = ⟨out, frm, q, within, escape, true, true⟩ by unfold outSt; simp [e1])
    clear e1
    have cc5 := hS.cell 5
    have cc6 := hS.cell 6
    have ff6 := hS.frozen 6
    go_enter Tryd.func105, Tryd.ntmps105
    go_wp2_with fail
    have gs0 := only_setCell (World.grownBy.refl w (some g)) (p := ⟨g, 6, none⟩) (.inl rfl) (.bool true)
    have hx0 := hS.set_ 6 (.bool true)
    simp only [List.setIfInBounds_toArray, List.set_cons_succ, List.set_cons_zero] at hx0
    have y1 := own_at h1 hS (by decide) gs0
    have y2 := own_at h2 hS (by decide) gs0
    have yb := (Below.refl base w).setCell (p := ⟨g, 6, none⟩) hbg (.bool true)
    have yI := (ItK.refl w).trans (ItK.set hS 6 (.bool true))
    go_returns
    exact ⟨rfl, by rw [HE.out]; exact ⟨A1, n1, c1, A2, n2, c2, hx0, y1, y2, hbg⟩, yb, yI⟩
  case false =>
    by_cases e3 : c = 34
    · have t3 : (c == 34) = true := by simpa using e3
      by_cases e2 : 0 ≤ frm
      · have t2 : decide ((0 : Int) ≤ frm) = true := decide_eq_true e2
        have HE := Lib.hid (show outSt ⟨out, frm, q, within, escape, false, bad⟩ line i c = ⟨out, frm, q, within, escape, false, true⟩ by unfold outSt; simp [e3, e2])
        clear e1 e3
        have cc1 := hS.cell 1
        have cc5 := hS.cell 5
        have cc6 := hS.cell 6
        have ff6 := hS.frozen 6
        go_enter Tryd.func105, Tryd.ntmps105
        go_wp2_with fail
        have gs0 := only_setCell (World.grownBy.refl w (some g)) (p := ⟨g, 6, none⟩) (.inl rfl) (.bool true)
        have hx0 := hS.set_ 6 (.bool true)
        simp only [List.setIfInBounds_toArray, List.set_cons_succ, List.set_cons_zero] at hx0
        have y1 := own_at h1 hS (by decide) gs0
        have y2 := own_at h2 hS (by decide) gs0
        have yb := (Below.refl base w).setCell (p := ⟨g, 6, none⟩) hbg (.bool true)
        have yI := (ItK.refl w).trans (ItK.set hS 6 (.bool true))
        go_returns
        exact ⟨rfl, by rw [HE.out]; exact ⟨A1, n1, c1, A2, n2, c2, hx0, y1, y2, hbg⟩, yb, yI⟩
      · have t2 : decide ((0 : Int) ≤ frm) = false := decide_eq_false e2
        have HE := Lib.hid (show outSt ⟨out, frm, q, within, escape, false, bad⟩ line i c = ⟨out, frm, q, true, escape, false, bad⟩ by unfold outSt; simp [e3, e2])
        clear e1 e3
        have cc1 := hS.cell 1
        have cc3 := hS.cell 3
        have cc5 := hS.cell 5
        have ff3 := hS.frozen 3
        go_enter Tryd.func105, Tryd.ntmps105
        go_wp2_with fail
        have gs0 := only_setCell (World.grownBy.refl w (some g)) (p := ⟨g, 3, none⟩) (.inl rfl) (.bool true)
        have hx0 := hS.set_ 3 (.bool true)
        simp only [List.setIfInBounds_toArray, List.set_cons_succ, List.set_cons_zero] at hx0
        have y1 := own_at h1 hS (by decide) gs0
        have y2 := own_at h2 hS (by decide) gs0
        have yb := (Below.refl base w).setCell (p := ⟨g, 3, none⟩) hbg (.bool true)
        have yI := (ItK.refl w).trans (ItK.set hS 3 (.bool true))
        go_returns
        exact ⟨rfl, by rw [HE.out]; exact ⟨A1, n1, c1, A2, n2, c2, hx0, y1, y2, hbg⟩, yb, yI⟩
    · have t3 : (c == 34) = false := by simpa using e3
      by_cases e2 : frm < 0
      · have t2 : decide (frm < (0 : Int)) = true := decide_eq_true e2
        have HE := Lib.hid (show outSt ⟨out, frm, q, within, escape, false, bad⟩ line i c = ⟨out, (i : Int), q, within, escape, false, bad⟩ by unfold outSt; simp [e1, e3, e2])
        clear e1 e3
        have cc1 := hS.cell 1
        have cc5 := hS.cell 5
        have ff1 := hS.frozen 1
        go_enter Tryd.func105, Tryd.ntmps105
        go_wp2_with fail
        have gs0 := only_setCell (World.grownBy.refl w (some g)) (p := ⟨g, 1, none⟩) (.inl rfl) (.int .i64 (i : Int))
        have hx0 := hS.set_ 1 (.int .i64 (i : Int))
        simp only [List.setIfInBounds_toArray, List.set_cons_succ, List.set_cons_zero] at hx0
        have y1 := own_at h1 hS (by decide) gs0
        have y2 := own_at h2 hS (by decide) gs0
        have yb := (Below.refl base w).setCell (p := ⟨g, 1, none⟩) hbg (.int .i64 (i : Int))
        have yI := (ItK.refl w).trans (ItK.set hS 1 (.int .i64 (i : Int)))
        go_returns
        exact ⟨rfl, by rw [HE.out]; exact ⟨A1, n1, c1, A2, n2, c2, hx0, y1, y2, hbg⟩, yb, yI⟩
      · have t2 : decide (frm < (0 : Int)) = false := decide_eq_false e2
        have HE := Lib.hid (show outSt ⟨out, frm, q, within, escape, false, bad⟩ line i c = ⟨out, frm, q, within, escape, false, bad⟩ by unfold outSt; simp [e1, e3, e2])
        clear e1 e3
        have cc1 := hS.cell 1
        have cc5 := hS.cell 5
        go_enter Tryd.func105, Tryd.ntmps105
        go_wp2_with fail
        go_returns
        exact ⟨rfl, by rw [HE.out]; exact ⟨A1, n1, c1, A2, n2, c2, hS, h1, h2, hbg⟩, Below.refl base w, ItK.refl w⟩
end Go.Proofs.YtnhkpnohadbcdaaDoor
