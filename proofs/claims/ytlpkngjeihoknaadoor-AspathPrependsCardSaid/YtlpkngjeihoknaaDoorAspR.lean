/- Walks of layer 3 (paths): a narrow one and a wide one together, by the document. No conditions but sizes. -/
import Derived.Test.YtlpkngjeihoknaaDoorProg
import Derived.WalkKit
import Derived.WalkSpells
import Derived.WalkLawsBesides
import Derived.Outline
import Derived.Deep.QuietTactic
import Derived.BigQuiet
import Derived.Handy
import Derived.Lib.Hide
import Derived.Laws.Cover4
import Derived.OrdersHeld
import Derived.Deep.RegionHeld
import Derived.Deep.DeepCutAuto
import Derived.Deep.CutBlock
import Derived.Test.YtlpkngjeihoknaaDoorAspJ
import Derived.Test.YtlpkngjeihoknaaDoorAspQ
namespace Go.Proofs.YtlpkngjeihoknaaDoor
open Go.RowKit
set_option linter.unusedSimpArgs false
set_option linter.unusedVariables false
/-- A path that is handed back, to be read. -/
def RetD (w : World) (l : List Seg) (e : Ending) (w' : World) : Prop := ∃ (A : Option Addr) (n c : Nat), e = .returned (.slice A n c) ∧ DL rSeg 2 w' (Lo w') A n l ∧ Below w.heap.size w w'
/-- Parts of the call's own, and parts that read, in one row. -/
theorem DL.both {w w' : World} {base n c m c2 : Nat} {A A2 : Option Addr} {M : List (Seg × Hd)} {more : List Seg} {css : List (List Value)} (h : OP w base A n c M) (hm : m = more.length) (hl : css.length = more.length)
    (hel : ∀ (i : Nat) (cs : List Value) (a : Seg), css[i]? = some cs → more[i]? = some a → rSeg w' (Lo w') cs a) (hsz : ∀ cs ∈ css, cs.length = 2)
    (ho : w'.ownsRow base 73 2 (.slice A2 (n + m) c2) (n + m) (segsC M ++ css.flatten)) (hg : w.grownBy w' (Value.ownBlock (.slice A n c))) : DL rSeg 2 w' (Lo w') A2 (n + m) (M.map (·.1) ++ more) := by
  have e : (M.map segC ++ css).flatten = segsC M ++ css.flatten := by rw [List.flatten_append]; congr 1
  refine ⟨M.map segC ++ css, by simp [hl], by rw [List.length_append, List.length_map, h.1, hm], ?_, fun i cs a hi ha => ?_, fun cs hcs => ?_⟩
  · rw [e]
    exact Rw.of_reads (Reads.of_own ho) (by omega) (fun b hb => hb)
  · rcases Nat.lt_or_ge i M.length with hlt | hge
    · rw [List.getElem?_append_left (by simpa using hlt), List.getElem?_map] at hi
      rw [List.getElem?_append_left (by simpa using hlt), List.getElem?_map] at ha
      obtain ⟨y, hy, rfl⟩ := Option.map_eq_some_iff.1 hi
      rw [hy] at ha
      simp only [Option.map_some, Option.some.injEq] at ha
      subst ha
      have key := h.2.2.1 y (List.mem_of_getElem? hy)
      have k2 : OU w' base y.2.1 y.2.2.1 y.2.2.2 y.1.2 := ⟨key.1, own_own key.2.1 h.2.1 (by decide) hg, key.2.2⟩
      exact ⟨y.2.1, y.2.2.1, y.2.2.2, rfl, NF.of k2.ns (fun b hb => hb), k2.cap⟩
    · rw [List.getElem?_append_right (by simpa using hge), List.length_map] at hi
      rw [List.getElem?_append_right (by simpa using hge), List.length_map] at ha
      exact hel _ cs a hi ha
  · rcases List.mem_append.1 hcs with hcs | hcs
    · obtain ⟨y, _, rfl⟩ := List.mem_map.1 hcs
      rfl
    · exact hsz cs hcs
set_option maxHeartbeats 8000000 in
set_option maxRecDepth 100000 in
theorem refMerge03 (A : Option Addr) (n c : Nat) (l : List Seg) (A' : Option Addr) (n' c' : Nat) (more : List Seg) (w : World) (hd : DL rSeg 2 w (Lo w) A n l) (hd' : DL rSeg 2 w (Lo w) A' n' more) (hn : n ≤ 100000) (hn' : n' ≤ 100000) (hs : Hid (sumN l ≤ big32)) (hs' : Hid (sumN more ≤ big32)) :
    Calls Tryd.prog 27 #[.slice A n c, .slice A' n' c'] w (RetD w (mergeA l more)) := by
  have HN := Lib.hid hd.len
  have HN' := Lib.hid hd'.len
  by_cases h0 : n' = 0
  · have t0 : ((n' : Int) == 0) = true := by simp; omega
    have HM := Lib.hid (show mergeA l more = l from mergeA_no (.inl (List.eq_nil_of_length_eq_zero (by have := HN'.out; omega))))
    clear h0
    go_enter Tryd.func27, Tryd.ntmps27
    go_wp2_with fail
    go_ret
    exact ⟨A, n, c, rfl, by rw [HM.out]; exact hd, Below.refl _ _⟩
  have t0 : ((n' : Int) == 0) = false := by simp; omega
  have HNE := Lib.hid (show more ≠ [] from fun e => h0 (by have := HN'.out; rw [e] at this; exact this))
  obtain ⟨r1, hr1⟩ : ∃ r, rightA l = r := ⟨_, rfl⟩
  obtain ⟨r2, hr2⟩ : ∃ r, rightA more = r := ⟨_, rfl⟩
  have HR1 := Lib.hid (show ∀ w, DL rSeg 2 w (Lo w) A n l → Calls Tryd.prog 20 #[.slice A n c] w fun en w' => en = .returned (.bool r1) ∧ Below w.heap.size w w' from fun w hd => by rw [← hr1]; exact refRight03 A n c l w hd hn)
  have HR2 := Lib.hid (show ∀ w, DL rSeg 2 w (Lo w) A' n' more → Calls Tryd.prog 20 #[.slice A' n' c'] w fun en w' => en = .returned (.bool r2) ∧ Below w.heap.size w w' from fun w hd => by rw [← hr2]; exact refRight03 A' n' c' more w hd hn')
  clear h0
  cases r1
  · have HM := Lib.hid (show mergeA l more = l from mergeA_no (.inr (.inl hr1)))
    clear hr1 hr2
    go_enter Tryd.func27, Tryd.ntmps27
    go_wp2_with fail
    refine (HR1.out _ hd).mono ?_
    rintro _ w1 ⟨rfl, b1⟩
    have b01 := b1
    go_wp2_with fail
    go_ret
    exact ⟨A, n, c, rfl, by rw [HM.out]; exact hd.segB2 b01, b01⟩
  cases r2
  · have HM := Lib.hid (show mergeA l more = l from mergeA_no (.inr (.inr (.inl hr2))))
    clear hr1 hr2
    go_enter Tryd.func27, Tryd.ntmps27
    go_wp2_with fail
    refine (HR1.out _ hd).mono ?_
    rintro _ w1 ⟨rfl, b1⟩
    have b01 := b1
    go_wp2_with fail
    refine (HR2.out _ (hd'.segB2 b01)).mono ?_
    rintro _ w2 ⟨rfl, b2⟩
    have b02 := btr b01 b2 b01.size
    go_wp2_with fail
    go_ret
    exact ⟨A, n, c, rfl, by rw [HM.out]; exact hd.segB2 b02, b02⟩
  have HRL := Lib.hid hr1
  have hc1 := countA_le8 hr1
  have hc2 := countA_le8 hr2
  obtain ⟨C1, hC1⟩ : ∃ C, countA l = C := ⟨_, rfl⟩
  obtain ⟨C2, hC2⟩ : ∃ C, countA more = C := ⟨_, rfl⟩
  have HC1 := Lib.hid (show ∀ w, DL rSeg 2 w (Lo w) A n l → Calls Tryd.prog 29 #[.slice A n c] w fun en w' => en = .returned (.int .i64 (C1 : Int)) ∧ Below w.heap.size w w' from fun w hd => by rw [← hC1]; exact refCount03 A n c l w hd hn hs)
  have HC2 := Lib.hid (show ∀ w, DL rSeg 2 w (Lo w) A' n' more → Calls Tryd.prog 29 #[.slice A' n' c'] w fun en w' => en = .returned (.int .i64 (C2 : Int)) ∧ Below w.heap.size w w' from fun w hd => by rw [← hC2]; exact refCount03 A' n' c' more w hd hn' hs')
  rw [hC1] at hc1
  rw [hC2] at hc2
  by_cases hlt : C1 < C2
  · have t1 : decide (C1 < C2) = true := decide_eq_true hlt
    have HM := Lib.hid (show mergeA l more = l from mergeA_no (.inr (.inr (.inr (by omega)))))
    clear hr1 hr2 hC1 hC2 hc1 hc2 hlt
    go_enter Tryd.func27, Tryd.ntmps27
    go_wp2_with fail
    refine (HR1.out _ hd).mono ?_
    rintro _ w1 ⟨rfl, b1⟩
    have b01 := b1
    go_wp2_with fail
    refine (HR2.out _ (hd'.segB2 b01)).mono ?_
    rintro _ w2 ⟨rfl, b2⟩
    have b02 := btr b01 b2 b01.size
    go_wp2_with fail
    refine (HC2.out _ (hd'.segB2 b02)).mono ?_
    rintro _ w3 ⟨rfl, b3⟩
    have b03 := btr b02 b3 b02.size
    go_wp2_with fail
    refine (HC1.out _ (hd.segB2 b03)).mono ?_
    rintro _ w4 ⟨rfl, b4⟩
    have b04 := btr b03 b4 b03.size
    go_wp2_with fail
    go_ret
    exact ⟨A, n, c, rfl, by rw [HM.out]; exact hd.segB2 b04, b04⟩
  have t1 : decide (C1 < C2) = false := decide_eq_false hlt
  have HM := Lib.hid (show mergeA l more = if rightA (headA l (C1 - C2) ++ more) = true then headA l (C1 - C2) ++ more else l by
    rw [← hC1, ← hC2]
    exact mergeA_yes (by rw [hr1, hr2]; rintro (h | h | h | h); exact HNE.out h; cases h; cases h; omega))
  have wd : IntKind.i64.wrap ((C1 : Int) - (C2 : Int)) = ((C1 - C2 : Nat) : Int) := by rw [IntWalk.i64_in _ ⟨by omega, by omega⟩]; omega
  obtain ⟨Dn, hDn⟩ : ∃ D, C1 - C2 = D := ⟨_, rfl⟩
  rw [hDn] at wd HM
  have hDb : Dn ≤ 1000 := by omega
  have hn8 : n ≤ 8 := by have := (rightA_of hr1).2.2; have := HN.out; omega
  have hn8' : n' ≤ 8 := by have := (rightA_of hr2).2.2; have := HN'.out; omega
  clear hr1 hr2 hC1 hC2 hc1 hc2 hlt hDn
  go_enter Tryd.func27, Tryd.ntmps27
  go_wp2_with fail
  refine (HR1.out _ hd).mono ?_
  rintro _ w1 ⟨rfl, b1⟩
  have b01 := b1
  go_wp2_with fail
  refine (HR2.out _ (hd'.segB2 b01)).mono ?_
  rintro _ w2 ⟨rfl, b2⟩
  have b02 := btr b01 b2 b01.size
  go_wp2_with fail
  refine (HC2.out _ (hd'.segB2 b02)).mono ?_
  rintro _ w3 ⟨rfl, b3⟩
  have b03 := btr b02 b3 b02.size
  go_wp2_with fail
  refine (HC1.out _ (hd.segB2 b03)).mono ?_
  rintro _ w4 ⟨rfl, b4⟩
  have b04 := btr b03 b4 b03.size
  go_wp2_with fail
  refine (HC1.out _ (hd.segB2 b04)).mono ?_
  rintro _ w5 ⟨rfl, b5⟩
  have b05 := btr b04 b5 b04.size
  go_wp2_with fail
  refine (HC2.out _ (hd'.segB2 b05)).mono ?_
  rintro _ w6 ⟨rfl, b6⟩
  have b06 := btr b05 b6 b05.size
  go_wp2_with fail
  go_loopw [5, 6, 7] (fun v5 s i wr => ∃ (j m : Nat) (A1 : Option Addr) (n1 c1 : Nat) (M : List (Seg × Hd)), j ≤ n ∧ i = .int .i64 j ∧ v5 = .int .i64 (m : Int) ∧ m ≤ 1000 ∧ s = .slice A1 n1 c1 ∧ n1 ≤ j ∧ OP wr w.heap.size A1 n1 c1 M ∧ Hid (headA l Dn = M.map (·.1) ++ headA (l.drop j) m) ∧ Below w.heap.size w wr) (fun _ _ i _ => n - (intOf i).toNat)
  case atStart => exact ⟨0, Dn, none, 0, 0, [], by omega, rfl, rfl, hDb, rfl, by omega, OP.nil_, Lib.hid rfl, b06⟩
  case round =>
    obtain ⟨j, m, A1, n1, c1, M, hj, rfl, rfl, hm, rfl, hn1, ho, HH, hb⟩ := hrel
    clear t0 t1 wd
    by_cases hlt : j < n
    case neg =>
      have e2 : decide ((j : Int) < n) = false := decide_eq_false (by omega)
      have HF := Lib.hid (show M.map (·.1) = headA l Dn by rw [HH.out, List.drop_eq_nil_of_le (by have := HN.out; omega)]; simp [headA])
      obtain ⟨css, g1, g2, g3w, g4w, g5⟩ := hd'
      have g3 := g3w.keep (Kp.call hb)
      have g4 : ∀ (i : Nat) (cs : List Value) (a : Seg), css[i]? = some cs → more[i]? = some a → rSeg wr (Lo wr) cs a := fun i cs a hi ha => rSeg_ok.keep (g4w i cs a hi ha) (Kp.call hb)
      have HG2 := Lib.hid g2
      have hrd := g3.reads (B := wr.heap.size) (fun b hb => hb)
      have h1c : ∀ u ∈ css.flatten, u.oneCell' = true := by
        intro u hu
        obtain ⟨cs, hcs, hu⟩ := List.mem_flatten.1 hu
        obtain ⟨i, hi⟩ := List.getElem?_of_mem hcs
        have hil := (List.getElem?_eq_some_iff.1 hi).1
        exact rSeg_ok.one (g4 i cs _ hi (List.getElem?_eq_getElem (by omega))) u hu
      have HG := Lib.hid (And.intro g1 (And.intro g4w g5))
      clear g1 g2 g3 g4 g5 g3w g4w
      go_upto_region 18 with (at_builtin; refine wpl_appR rfl (.tmp 99) (.tmp 100) 22 rfl 73 _ 2 32 Tryd.underlying22 seg_info rfl (by omega) w.heap.size A1 n1 c1 _ (by rfl) ho.2.1 wr.heap.size A' n' c' css.flatten (by rfl) hrd h1c (by unfold maxLen; omega) (by omega) hb.size ?_; intro A9 c9 w9 o9 b9 g9 _)
      have b09 := hb.trans b9
      have D9 : DL rSeg 2 w9 (Lo w9) A9 (n1 + n') (M.map (·.1) ++ more) := by
        obtain ⟨g1, g4, g5⟩ := HG.out
        exact DL.both ho HG2.out g1 (fun i cs a hi ha => rSeg_ok.keep (g4 i cs a hi ha) (Kp.call b09)) g5 o9 g9
      rw [HF.out] at D9
      obtain ⟨r3, hr3⟩ : ∃ r, rightA (headA l Dn ++ more) = r := ⟨_, rfl⟩
      have HR3 := refRight03 A9 (n1 + n') c9 _ w9 D9 (by omega)
      rw [hr3] at HR3
      have HR3' := Lib.hid HR3
      clear HR3
      cases r3
      · have HM2 := Lib.hid (show mergeA l more = l by rw [HM.out, hr3]; rfl)
        clear hr3
        go_wp2_with fail
        refine HR3'.out.mono ?_
        rintro _ w10 ⟨rfl, b10⟩
        have b010 := btr b09 b10 b09.size
        go_wp2_with fail
        go_ret
        exact ⟨_, _, _, rfl, by rw [HM2.out]; exact hd.segB2 b010, b010⟩
      · have HM2 := Lib.hid (show mergeA l more = headA l Dn ++ more by rw [HM.out, hr3, if_pos rfl])
        clear hr3
        go_wp2_with fail
        refine HR3'.out.mono ?_
        rintro _ w10 ⟨rfl, b10⟩
        have b010 := btr b09 b10 b09.size
        have D10 := D9.segB2 b10
        go_wp2_with fail
        go_ret
        exact ⟨A9, n1 + n', c9, rfl, by rw [HM2.out]; exact D10, b010⟩
    have e2 : decide ((j : Int) < n) = true := decide_eq_true (by omega)
    have hlti : (j : Int) < n := by omega
    by_cases h0 : m = 0
    · have e3 : decide (0 < m) = false := decide_eq_false (by omega)
      have HF := Lib.hid (show M.map (·.1) = headA l Dn by rw [HH.out, h0, headA_zero, List.append_nil])
      clear h0
      obtain ⟨css, g1, g2, g3w, g4w, g5⟩ := hd'
      have g3 := g3w.keep (Kp.call hb)
      have g4 : ∀ (i : Nat) (cs : List Value) (a : Seg), css[i]? = some cs → more[i]? = some a → rSeg wr (Lo wr) cs a := fun i cs a hi ha => rSeg_ok.keep (g4w i cs a hi ha) (Kp.call hb)
      have HG2 := Lib.hid g2
      have hrd := g3.reads (B := wr.heap.size) (fun b hb => hb)
      have h1c : ∀ u ∈ css.flatten, u.oneCell' = true := by
        intro u hu
        obtain ⟨cs, hcs, hu⟩ := List.mem_flatten.1 hu
        obtain ⟨i, hi⟩ := List.getElem?_of_mem hcs
        have hil := (List.getElem?_eq_some_iff.1 hi).1
        exact rSeg_ok.one (g4 i cs _ hi (List.getElem?_eq_getElem (by omega))) u hu
      have HG := Lib.hid (And.intro g1 (And.intro g4w g5))
      clear g1 g2 g3 g4 g5 g3w g4w
      go_upto_region 18 with (at_builtin; refine wpl_appR rfl (.tmp 99) (.tmp 100) 22 rfl 73 _ 2 32 Tryd.underlying22 seg_info rfl (by omega) w.heap.size A1 n1 c1 _ (by rfl) ho.2.1 wr.heap.size A' n' c' css.flatten (by rfl) hrd h1c (by unfold maxLen; omega) (by omega) hb.size ?_; intro A9 c9 w9 o9 b9 g9 _)
      have b09 := hb.trans b9
      have D9 : DL rSeg 2 w9 (Lo w9) A9 (n1 + n') (M.map (·.1) ++ more) := by
        obtain ⟨g1, g4, g5⟩ := HG.out
        exact DL.both ho HG2.out g1 (fun i cs a hi ha => rSeg_ok.keep (g4 i cs a hi ha) (Kp.call b09)) g5 o9 g9
      rw [HF.out] at D9
      obtain ⟨r3, hr3⟩ : ∃ r, rightA (headA l Dn ++ more) = r := ⟨_, rfl⟩
      have HR3 := refRight03 A9 (n1 + n') c9 _ w9 D9 (by omega)
      rw [hr3] at HR3
      have HR3' := Lib.hid HR3
      clear HR3
      cases r3
      · have HM2 := Lib.hid (show mergeA l more = l by rw [HM.out, hr3]; rfl)
        clear hr3
        go_wp2_with fail
        refine HR3'.out.mono ?_
        rintro _ w10 ⟨rfl, b10⟩
        have b010 := btr b09 b10 b09.size
        go_wp2_with fail
        go_ret
        exact ⟨_, _, _, rfl, by rw [HM2.out]; exact hd.segB2 b010, b010⟩
      · have HM2 := Lib.hid (show mergeA l more = headA l Dn ++ more by rw [HM.out, hr3, if_pos rfl])
        clear hr3
        go_wp2_with fail
        refine HR3'.out.mono ?_
        rintro _ w10 ⟨rfl, b10⟩
        have b010 := btr b09 b10 b09.size
        have D10 := D9.segB2 b10
        go_wp2_with fail
        go_ret
        exact ⟨A9, n1 + n', c9, rfl, by rw [HM2.out]; exact D10, b010⟩
    have e3 : decide (0 < m) = true := decide_eq_true (by omega)
    have H0 := Lib.hid h0
    obtain ⟨x, hx⟩ := getS HN.out hlt
    have HDR := Lib.hid (drop_cons hx)
    have HRA := Lib.hid (right_at HRL.out (List.mem_of_getElem? hx))
    obtain ⟨b, off, A2, n2, c2, rfl, hbl, k0w, k1w, hnf, hnc'⟩ := hd.segAt hx
    have hbl : b < w.heap.size := hbl
    obtain ⟨k, zs⟩ := x
    simp only at k0w hnf HRA
    have k0 := (hb.cell (p := ⟨b, off + j * 2, none⟩) hbl).trans k0w
    have HNZ := Lib.hid hnf.1
    have hn64 : n2 ≤ 64 := by have := HRA.out.2.2; have := HNZ.out; omega
    have wj : IntKind.i64.wrap ((j : Int) + 1) = (j : Int) + 1 := IntWalk.i64_in _ ⟨by omega, by omega⟩
    have hj0 : (0 : Int) ≤ (j : Int) := by omega
    clear hx h0
    go_upto_region 9 with fail
    obtain ⟨w7, hw7, hX, b7⟩ := box1c wr #[.int .i64 k, .slice none 0 0] 73
    try rw [hw7]
    clear hw7
    obtain ⟨gx, hgx⟩ : ∃ gx, wr.heap.size = gx := ⟨_, rfl⟩
    have HGX := Lib.hid hgx
    have hzb := hb.size
    have hwgx : w.heap.size ≤ gx := by omega
    rw [hgx] at hX
    try rw [hgx]
    clear hgx k0
    go_wp2_with fail
    go_loopw [9] (fun v9 wi => ∃ (q : Nat) (A3 : Option Addr) (n3 c3 : Nat), v9 = .int .i64 (q : Int) ∧ q ≤ n2 ∧ (k = 1 ∨ q ≤ m) ∧ Blk wi gx 73 #[.int .i64 k, .slice A3 n3 c3] ∧ OU wi gx A3 n3 c3 (zs.take q) ∧ Below wr.heap.size wr wi) (fun i _ => n2 - (intOf i).toNat)
    case atStart => exact ⟨0, none, 0, 0, rfl, by omega, .inr (by omega), hX, OU.nil_, b7⟩
    case round =>
      obtain ⟨q, A3, n3, c3, rfl, hq, hqm, hXi, hou, hB⟩ := hrel
      have x0 := hXi.cell 0
      have x1 := hXi.cell 1
      have b03 := btr hb hB hb.size
      have k1 := (b03.cell (p := ⟨b, off + j * 2 + 1, none⟩) hbl).trans k1w
      have hop := ho.call hB
      have HQL := Lib.hid (show n3 = q by have h1 := hou.1; rw [List.length_take] at h1; have := HNZ.out; omega)
      have hn3 : n3 ≤ 64 := by have := HQL.out; omega
      by_cases hk1 : k = 1
      · have t2 : (k == 1) = true := by rw [hk1]; rfl
        have HK1 := Lib.hid hk1
        clear hqm
        by_cases hql : q < n2
        case neg =>
          have e4 : decide (q < n2) = false := decide_eq_false hql
          have HM2 := Lib.hid (show headA l Dn = (M ++ [((k, zs.take q), ((A3, n3, c3) : Hd))]).map (·.1) ++ headA (l.drop (j + 1)) (m - 1) by
            rw [HH.out, HDR.out, headA, if_neg H0.out, if_pos HK1.out, List.map_append, List.take_of_length_le (by have := HNZ.out; omega)]; simp)
          have wd : IntKind.i64.wrap ((m : Int) - 1) = ((m - 1 : Nat) : Int) := by have := H0.out; rw [IntWalk.i64_in _ ⟨by omega, by omega⟩]; omega
          clear hk1 hql
          have oa := own_alloc2 hop.2.1 (.cells #[.int .i64 k, .slice A3 n3 c3] 73)
          have B4 := b03.alloc b03.size (.cells #[.int .i64 k, .slice A3 n3 c3] 73)
          have HOP := (hop.call ((Below.refl wr.heap.size wr).alloc (Nat.le_refl _) (.cells #[.int .i64 k, .slice A3 n3 c3] 73)))
          have o3a := (hou.alloc (.cells #[.int .i64 k, .slice A3 n3 c3] 73)).low hwgx
          have HAP := Lib.hid (ho.apt (y := ((k, zs.take q), (A3, n3, c3))) hou (Nat.le_of_eq HGX.out))
          go_wp2_with (at_builtin; refine wpl_appR rfl (.tmp 95) (.tmp 97) 22 rfl 73 _ 2 32 Tryd.underlying22 seg_info rfl (by omega) w.heap.size _ n1 _ _ (by rfl) oa (wr.heap.size + 1) (some ⟨wr.heap.size, 0, none⟩) 1 1 [.int .i64 k, .slice A3 n3 c3] (by rfl) (Reads.two wr 73 (.int .i64 k) (.slice A3 n3 c3) rfl) (by intro u hu; simp at hu; rcases hu with rfl | rfl <;> rfl) (by unfold maxLen; omega) (by omega) (by have := b03.size; simp; omega) ?_; intro A6 c6 w6 o6 b6 g6 _)
          have hO6 := HOP.push (y := ((k, zs.take q), (A3, n3, c3))) o3a HAP.out o6 g6
          go_roundw
          case rel => exact ⟨j + 1, m - 1, A6, n1 + 1, c6, _, by omega, by go_num, rfl, by omega, rfl, by omega, hO6, HM2, B4.trans b6⟩
          case measure => simp [intOf]; omega
        have e4 : decide (q < n2) = true := decide_eq_true hql
        clear hk1
        have hqi : (q : Int) < n2 := by omega
        have hq0 : (0 : Int) ≤ (q : Int) := by omega
        obtain ⟨y, hy⟩ : ∃ y, zs[q]? = some y := ⟨_, List.getElem?_eq_getElem (by have := HNZ.out; omega)⟩
        obtain ⟨b4, off4, rfl, hbl4, z0w⟩ := hnf.at_ hy
        have hbl4 : b4 < w.heap.size := hbl4
        have hyw : (Lit.int .u32 y).wf = true := hnf.2.2 y (List.mem_of_getElem? hy)
        have HY := Lib.hid (take_snoc hy)
        have KX := Lib.hid (show ∀ W, Below w.heap.size w W → W.cell? ⟨b, off + j * 2 + 1, none⟩ = some (.slice (some ⟨b4, off4, none⟩) n2 c2) ∧ W.cell? ⟨b4, off4 + q, none⟩ = some (.int .u32 y) from fun W hW => ⟨(hW.cell (p := ⟨b, off + j * 2 + 1, none⟩) hbl).trans k1w, (hW.cell (p := ⟨b4, off4 + q, none⟩) hbl4).trans z0w⟩)
        have wq : IntKind.i64.wrap ((q : Int) + 1) = (q : Int) + 1 := IntWalk.i64_in _ ⟨by omega, by omega⟩
        have bd1 : Below w.heap.size w wr.drew := b03.drew
        have bd2 : Below w.heap.size w (wr.drew.alloc (.cells #[.int .u32 y] 33)) := bd1.alloc bd1.size _
        have BA := (hB.drew).alloc hB.size (.cells #[.int .u32 y] 33)
        have hXd : Blk wr.drew gx 73 #[.int .i64 k, .slice A3 n3 c3] := hXi
        have bA : Below wr.drew.heap.size wr.drew (wr.drew.alloc (.cells #[.int .u32 y] 33)) := (Below.refl _ _).alloc (Nat.le_refl _) _
        have hXA := hXd.below bA hXd.lt
        have ouA : OU (wr.drew.alloc (.cells #[.int .u32 y] 33)) gx A3 n3 c3 (zs.take q) := (show OU wr.drew gx A3 n3 c3 (zs.take q) from hou).alloc _
        have nsA := NS.one wr.drew hyw (g := wr.drew.heap.size) rfl
        have hbA : gx ≤ (wr.drew.alloc (.cells #[.int .u32 y] 33)).heap.size := Nat.le_of_lt hXA.lt
        have x1d : wr.drew.cell? ⟨gx, 1, none⟩ = some (.slice A3 n3 c3) := x1
        have x1a := hXA.cell 1
        have x1b : (wr.alloc (.cells #[.int .u32 y] 33)).cell? ⟨gx, 1, none⟩ = some (.slice A3 n3 c3) := x1a
        clear hy z0w
        go_upto_region 12 with fail
        rename_i hk
        have HKK := Lib.hid hk
        clear hk x0 k1
        refine wp_region_held_drew (S := (fun w' => w'.cell? ⟨b, off + j * 2 + 1, none⟩ = some (.slice (some ⟨b4, off4, none⟩) n2 c2) ∧ w'.cell? ⟨b4, off4 + q, none⟩ = some (.int .u32 y))) (by kernel_rfl) ?_ (fun hHeld => ?_)
        · (first | exact KX.out _ bd1 | exact KX.out _ bd2 | exact KX.out _ bd5 | exact KX.out _ bd6)
        refine wpAnyH_take (i := 0) (v := ?qa1v0) rfl (by kernel_rfl) (by kernel_rfl) (by kernel_rfl) (by intro _ _ _ h; exact h) (Or.inl ⟨by rfl, ?qa1hy0⟩) (by assumption) ?qa1rest0
        case qa1hy0 => (intro w hSw; (try dsimp only at hSw); go_simp; try with_reducible rfl)
        try simp only [Act.put, List.getElem_toArray, List.getElem_cons_succ, List.getElem_cons_zero, List.setIfInBounds_toArray, List.set_cons_zero, List.set_cons_succ]
        refine wpAnyH_take (i := 2) (v := ?qa1v2) rfl (by kernel_rfl) (by kernel_rfl) (by kernel_rfl) (by intro _ _ _ h; exact h) (Or.inl ⟨by rfl, ?qa1hy2⟩) (by assumption) ?qa1rest2
        case qa1hy2 => (intro w hSw; (try dsimp only at hSw); go_simp; try with_reducible rfl)
        try simp only [Act.put, List.getElem_toArray, List.getElem_cons_succ, List.getElem_cons_zero, List.setIfInBounds_toArray, List.set_cons_zero, List.set_cons_succ]
        refine wpAnyH_take (i := 3) (v := ?qa1v3) rfl (by kernel_rfl) (by kernel_rfl) (by kernel_rfl) (by intro _ _ _ h; exact h) (Or.inl ⟨by rfl, ?qa1hy3⟩) (by assumption) ?qa1rest3
        case qa1hy3 => (intro w hSw; (try dsimp only at hSw); go_simp; try with_reducible rfl)
        try simp only [Act.put, List.getElem_toArray, List.getElem_cons_succ, List.getElem_cons_zero, List.setIfInBounds_toArray, List.set_cons_zero, List.set_cons_succ]
        refine wpAnyH_take (i := 4) (v := ?qa1v4) rfl (by kernel_rfl) (by kernel_rfl) (by kernel_rfl) (by intro _ _ _ h; exact h) (Or.inl ⟨by rfl, ?qa1hy4⟩) (by assumption) ?qa1rest4
        case qa1hy4 => (intro w hSw; (try dsimp only at hSw); go_simp; try with_reducible rfl)
        try simp only [Act.put, List.getElem_toArray, List.getElem_cons_succ, List.getElem_cons_zero, List.setIfInBounds_toArray, List.set_cons_zero, List.set_cons_succ]
        refine wpAnyH_take (i := 5) (v := ?qa1v5) rfl (by kernel_rfl) (by kernel_rfl) (by kernel_rfl) (by intro _ _ _ h; exact h) (Or.inl ⟨by rfl, ?qa1hy5⟩) (by assumption) ?qa1rest5
        case qa1hy5 => (intro w hSw; (try dsimp only at hSw); go_simp; try with_reducible rfl)
        try simp only [Act.put, List.getElem_toArray, List.getElem_cons_succ, List.getElem_cons_zero, List.setIfInBounds_toArray, List.set_cons_zero, List.set_cons_succ]
        refine wpAnyH_take (i := 6) (v := ?qa1v6) rfl (by kernel_rfl) (by kernel_rfl) (by kernel_rfl) (by intro _ _ _ h; exact h) (Or.inl ⟨by rfl, ?qa1hy6⟩) (by assumption) ?qa1rest6
        case qa1hy6 => (intro w hSw; (try dsimp only at hSw); go_simp; try with_reducible rfl)
        try simp only [Act.put, List.getElem_toArray, List.getElem_cons_succ, List.getElem_cons_zero, List.setIfInBounds_toArray, List.set_cons_zero, List.set_cons_succ]
        refine wpAnyH_take (i := 7) (v := ?qa1v7) rfl (by kernel_rfl) (by kernel_rfl) (by kernel_rfl) (by intro _ _ _ h; exact h) (Or.inl ⟨by rfl, ?qa1hy7⟩) (by assumption) ?qa1rest7
        case qa1hy7 => (intro w hSw; (try dsimp only at hSw); go_simp; try with_reducible rfl)
        try simp only [Act.put, List.getElem_toArray, List.getElem_cons_succ, List.getElem_cons_zero, List.setIfInBounds_toArray, List.set_cons_zero, List.set_cons_succ]
        refine wpAnyH_take (i := 8) (v := ?qa1v8) rfl (by kernel_rfl) (by kernel_rfl) (by kernel_rfl) (by intro _ _ _ h; exact h) (Or.inl ⟨by rfl, ?qa1hy8⟩) (by assumption) ?qa1rest8
        case qa1hy8 => (intro w hSw; (try dsimp only at hSw); go_simp; try with_reducible rfl)
        try simp only [Act.put, List.getElem_toArray, List.getElem_cons_succ, List.getElem_cons_zero, List.setIfInBounds_toArray, List.set_cons_zero, List.set_cons_succ]
        refine wpAnyH_take (i := 9) (v := ?qa1v9) rfl (by kernel_rfl) (by kernel_rfl) (by kernel_rfl) (by intro _ _ _ h; exact h) (Or.inl ⟨by rfl, ?qa1hy9⟩) (by assumption) ?qa1rest9
        case qa1hy9 => (intro w hSw; (try dsimp only at hSw); go_simp; try with_reducible rfl)
        try simp only [Act.put, List.getElem_toArray, List.getElem_cons_succ, List.getElem_cons_zero, List.setIfInBounds_toArray, List.set_cons_zero, List.set_cons_succ]
        refine wpAnyH_ready (rs := [1, 10]) (by kernel_rfl) (by simp) ?_
        refine AllReadyH.cons rfl (fun K hK => ?_) (AllReadyH.cons rfl (fun K hK => ?_) AllReadyH.nil)
        · go_simp
          go_wp2_with (fail)
          refine hK.out _ _ ?_ (fun hHeld => ?_)
          · try dsimp only
            (first | exact KX.out _ bd1 | exact KX.out _ bd2 | exact KX.out _ bd5 | exact KX.out _ bd6)
          clear hK K
          refine wpAnyH_ready (rs := [10]) (by kernel_rfl) (by simp) ?_
          refine AllReadyH.cons rfl (fun K hK => ?_) AllReadyH.nil
          go_simp
          go_wp2_with (fail)
          refine hK.out _ _ ?_ (fun hHeld => ?_)
          · try dsimp only
            (first | exact KX.out _ bd1 | exact KX.out _ bd2 | exact KX.out _ bd5 | exact KX.out _ bd6)
          clear hK K
          refine wpAnyH_ready (rs := [11]) (by kernel_rfl) (by simp) ?_
          refine AllReadyH.cons rfl (fun K hK => ?_) AllReadyH.nil
          refine step_appU rfl (.tmp 73) (.tmp 82) rfl gx A3 n3 c3 (zs.take q) (by rfl) ouA (wr.drew.heap.size + 1) (some ⟨wr.drew.heap.size, 0, none⟩) 1 1 [y] (by rfl) nsA (by rw [List.length_singleton, List.length_take]; omega) hbA ?_; intro A5 n5 c5 w5 o5 b5 g5 hat5; have hX5 := hXA.grown g5 (by intro e; first | exact own_blk_ne ouA.2.1 hXA (by decide) e | exact own_blk_ne ouA.2.1 hXA (by decide) e.symm); have f5 := hX5.frozen 1; have cc5 := hX5.cell 1; have hX6 := hX5.set_ 1 (.slice A5 n5 c5); have hg6 := only_setCell (World.grownBy.refl w5 (some gx)) (p := ⟨gx, 1, none⟩) (.inl rfl) (.slice A5 n5 c5); have o6 : OU (w5.setCell ⟨gx, 1, none⟩ (.slice A5 n5 c5)) gx A5 n5 c5 (zs.take q ++ [y]) := ⟨o5.1, own_at o5.2.1 hX5 (by decide) hg6, o5.2.2⟩; have bd5 := bd2.trans (b5.mono hwgx); have bd6 := bd5.setCell (p := ⟨gx, 1, none⟩) hwgx (.slice A5 n5 c5); have B5 := BA.trans (b5.mono (Nat.le_of_eq HGX.out)); have B6 := B5.setCell (p := ⟨gx, 1, none⟩) (Nat.le_of_eq HGX.out) (.slice A5 n5 c5); simp only [List.setIfInBounds_toArray, List.set_cons_succ, List.set_cons_zero] at hX6
          refine hK.out _ _ ?_ (fun hHeld => ?_)
          · try dsimp only
            (first | exact KX.out _ bd1 | exact KX.out _ bd2 | exact KX.out _ bd5 | exact KX.out _ bd6)
          clear hK K
          refine wpAnyH_take (i := 12) (v := ?qa21v12) rfl (by kernel_rfl) (by kernel_rfl) (by kernel_rfl) (by intro _ _ _ h; exact h) (Or.inl ⟨by rfl, ?qa21hy12⟩) (by assumption) ?qa21rest12
          case qa21hy12 => (intro w hSw; (try dsimp only at hSw); go_simp; try with_reducible rfl)
          try simp only [Act.put, List.getElem_toArray, List.getElem_cons_succ, List.getElem_cons_zero, List.setIfInBounds_toArray, List.set_cons_zero, List.set_cons_succ]
          refine wpAnyH_ready (rs := [13]) (by kernel_rfl) (by simp) ?_
          refine AllReadyH.cons rfl (fun K hK => ?_) AllReadyH.nil
          go_simp
          go_wp2_with (fail)
          refine hK.out _ _ ?_ (fun hHeld => ?_)
          · try dsimp only
            (first | exact KX.out _ bd1 | exact KX.out _ bd2 | exact KX.out _ bd5 | exact KX.out _ bd6)
          clear hK K
          refine wpAnyH_done (by kernel_rfl) ?_ _
          refine HKK.out _ _ ?_
          go_wp2_with fail
          go_roundw
          case rel => exact ⟨q + 1, A5, n5, c5, by go_num, by omega, (.inl HK1.out), hX6, by rw [HY.out]; exact o6, B6⟩
          case measure => simp [intOf]; omega
        · go_simp
          go_wp2_with (fail)
          refine hK.out _ _ ?_ (fun hHeld => ?_)
          · try dsimp only
            (first | exact KX.out _ bd1 | exact KX.out _ bd2 | exact KX.out _ bd5 | exact KX.out _ bd6)
          clear hK K
          refine wpAnyH_ready (rs := [1]) (by kernel_rfl) (by simp) ?_
          refine AllReadyH.cons rfl (fun K hK => ?_) AllReadyH.nil
          go_simp
          go_wp2_with (fail)
          refine hK.out _ _ ?_ (fun hHeld => ?_)
          · try dsimp only
            (first | exact KX.out _ bd1 | exact KX.out _ bd2 | exact KX.out _ bd5 | exact KX.out _ bd6)
          clear hK K
          refine wpAnyH_ready (rs := [11]) (by kernel_rfl) (by simp) ?_
          refine AllReadyH.cons rfl (fun K hK => ?_) AllReadyH.nil
          refine step_appU rfl (.tmp 73) (.tmp 82) rfl gx A3 n3 c3 (zs.take q) (by rfl) ouA (wr.drew.heap.size + 1) (some ⟨wr.drew.heap.size, 0, none⟩) 1 1 [y] (by rfl) nsA (by rw [List.length_singleton, List.length_take]; omega) hbA ?_; intro A5 n5 c5 w5 o5 b5 g5 hat5; have hX5 := hXA.grown g5 (by intro e; first | exact own_blk_ne ouA.2.1 hXA (by decide) e | exact own_blk_ne ouA.2.1 hXA (by decide) e.symm); have f5 := hX5.frozen 1; have cc5 := hX5.cell 1; have hX6 := hX5.set_ 1 (.slice A5 n5 c5); have hg6 := only_setCell (World.grownBy.refl w5 (some gx)) (p := ⟨gx, 1, none⟩) (.inl rfl) (.slice A5 n5 c5); have o6 : OU (w5.setCell ⟨gx, 1, none⟩ (.slice A5 n5 c5)) gx A5 n5 c5 (zs.take q ++ [y]) := ⟨o5.1, own_at o5.2.1 hX5 (by decide) hg6, o5.2.2⟩; have bd5 := bd2.trans (b5.mono hwgx); have bd6 := bd5.setCell (p := ⟨gx, 1, none⟩) hwgx (.slice A5 n5 c5); have B5 := BA.trans (b5.mono (Nat.le_of_eq HGX.out)); have B6 := B5.setCell (p := ⟨gx, 1, none⟩) (Nat.le_of_eq HGX.out) (.slice A5 n5 c5); simp only [List.setIfInBounds_toArray, List.set_cons_succ, List.set_cons_zero] at hX6
          refine hK.out _ _ ?_ (fun hHeld => ?_)
          · try dsimp only
            (first | exact KX.out _ bd1 | exact KX.out _ bd2 | exact KX.out _ bd5 | exact KX.out _ bd6)
          clear hK K
          refine wpAnyH_take (i := 12) (v := ?qa30v12) rfl (by kernel_rfl) (by kernel_rfl) (by kernel_rfl) (by intro _ _ _ h; exact h) (Or.inl ⟨by rfl, ?qa30hy12⟩) (by assumption) ?qa30rest12
          case qa30hy12 => (intro w hSw; (try dsimp only at hSw); go_simp; try with_reducible rfl)
          try simp only [Act.put, List.getElem_toArray, List.getElem_cons_succ, List.getElem_cons_zero, List.setIfInBounds_toArray, List.set_cons_zero, List.set_cons_succ]
          refine wpAnyH_ready (rs := [13]) (by kernel_rfl) (by simp) ?_
          refine AllReadyH.cons rfl (fun K hK => ?_) AllReadyH.nil
          go_simp
          go_wp2_with (fail)
          refine hK.out _ _ ?_ (fun hHeld => ?_)
          · try dsimp only
            (first | exact KX.out _ bd1 | exact KX.out _ bd2 | exact KX.out _ bd5 | exact KX.out _ bd6)
          clear hK K
          refine wpAnyH_done (by kernel_rfl) ?_ _
          refine HKK.out _ _ ?_
          go_wp2_with fail
          go_roundw
          case rel => exact ⟨q + 1, A5, n5, c5, by go_num, by omega, (.inl HK1.out), hX6, by rw [HY.out]; exact o6, B6⟩
          case measure => simp [intOf]; omega
      have t2 : (k == 1) = false := by simpa using hk1
      have HK1 := Lib.hid hk1
      have hqm2 : q ≤ m := by rcases hqm with h | h; exact absurd h hk1; exact h
      clear hqm hk1
      by_cases hql : q < n2 ∧ q < m
      case neg =>
        have e45 : decide (q < n2) = false ∨ (decide (q < n2) = true ∧ decide (q < m) = false) := by
          by_cases h : q < n2
          · right; exact ⟨decide_eq_true h, decide_eq_false (fun h2 => hql ⟨h, h2⟩)⟩
          · left; exact decide_eq_false h
        have HM2 := Lib.hid (show headA l Dn = (M ++ [((k, zs.take q), ((A3, n3, c3) : Hd))]).map (·.1) ++ headA (l.drop (j + 1)) (m - n3) by
          have h1 := HNZ.out
          have h2 := HQL.out
          have e : zs.take m = zs.take q := by
            by_cases h : m ≤ n2
            · rw [show q = m by omega]
            · rw [List.take_of_length_le (by omega), List.take_of_length_le (by omega)]
          rw [HH.out, HDR.out, headA, if_neg H0.out, if_neg HK1.out, List.map_append, e, show m - min m zs.length = m - n3 by omega]; simp)
        have wd : IntKind.i64.wrap ((m : Int) - (n3 : Int)) = ((m - n3 : Nat) : Int) := by have := HQL.out; rw [IntWalk.i64_in _ ⟨by omega, by omega⟩]; omega
        clear hql
        rcases e45 with e4 | ⟨e4, e5⟩
        all_goals
          have oa := own_alloc2 hop.2.1 (.cells #[.int .i64 k, .slice A3 n3 c3] 73)
          have B4 := b03.alloc b03.size (.cells #[.int .i64 k, .slice A3 n3 c3] 73)
          have HOP := (hop.call ((Below.refl wr.heap.size wr).alloc (Nat.le_refl _) (.cells #[.int .i64 k, .slice A3 n3 c3] 73)))
          have o3a := (hou.alloc (.cells #[.int .i64 k, .slice A3 n3 c3] 73)).low hwgx
          have HAP := Lib.hid (ho.apt (y := ((k, zs.take q), (A3, n3, c3))) hou (Nat.le_of_eq HGX.out))
          go_wp2_with (at_builtin; refine wpl_appR rfl (.tmp 95) (.tmp 97) 22 rfl 73 _ 2 32 Tryd.underlying22 seg_info rfl (by omega) w.heap.size _ n1 _ _ (by rfl) oa (wr.heap.size + 1) (some ⟨wr.heap.size, 0, none⟩) 1 1 [.int .i64 k, .slice A3 n3 c3] (by rfl) (Reads.two wr 73 (.int .i64 k) (.slice A3 n3 c3) rfl) (by intro u hu; simp at hu; rcases hu with rfl | rfl <;> rfl) (by unfold maxLen; omega) (by omega) (by have := b03.size; simp; omega) ?_; intro A6 c6 w6 o6 b6 g6 _)
          have hO6 := HOP.push (y := ((k, zs.take q), (A3, n3, c3))) o3a HAP.out o6 g6
          go_roundw
          case rel => exact ⟨j + 1, m - n3, A6, n1 + 1, c6, _, by omega, by go_num, rfl, by omega, rfl, by omega, hO6, HM2, B4.trans b6⟩
          case measure => simp [intOf]; omega
      obtain ⟨hql, hql2⟩ := hql
      have e4 : decide (q < n2) = true := decide_eq_true hql
      have e5 : decide (q < m) = true := decide_eq_true hql2
      have hqi : (q : Int) < n2 := by omega
      have hq0 : (0 : Int) ≤ (q : Int) := by omega
      obtain ⟨y, hy⟩ : ∃ y, zs[q]? = some y := ⟨_, List.getElem?_eq_getElem (by have := HNZ.out; omega)⟩
      obtain ⟨b4, off4, rfl, hbl4, z0w⟩ := hnf.at_ hy
      have hbl4 : b4 < w.heap.size := hbl4
      have hyw : (Lit.int .u32 y).wf = true := hnf.2.2 y (List.mem_of_getElem? hy)
      have HY := Lib.hid (take_snoc hy)
      have KX := Lib.hid (show ∀ W, Below w.heap.size w W → W.cell? ⟨b, off + j * 2 + 1, none⟩ = some (.slice (some ⟨b4, off4, none⟩) n2 c2) ∧ W.cell? ⟨b4, off4 + q, none⟩ = some (.int .u32 y) from fun W hW => ⟨(hW.cell (p := ⟨b, off + j * 2 + 1, none⟩) hbl).trans k1w, (hW.cell (p := ⟨b4, off4 + q, none⟩) hbl4).trans z0w⟩)
      have wq : IntKind.i64.wrap ((q : Int) + 1) = (q : Int) + 1 := IntWalk.i64_in _ ⟨by omega, by omega⟩
      have bd1 : Below w.heap.size w wr.drew := b03.drew
      have bd2 : Below w.heap.size w (wr.drew.alloc (.cells #[.int .u32 y] 33)) := bd1.alloc bd1.size _
      have BA := (hB.drew).alloc hB.size (.cells #[.int .u32 y] 33)
      have hXd : Blk wr.drew gx 73 #[.int .i64 k, .slice A3 n3 c3] := hXi
      have bA : Below wr.drew.heap.size wr.drew (wr.drew.alloc (.cells #[.int .u32 y] 33)) := (Below.refl _ _).alloc (Nat.le_refl _) _
      have hXA := hXd.below bA hXd.lt
      have ouA : OU (wr.drew.alloc (.cells #[.int .u32 y] 33)) gx A3 n3 c3 (zs.take q) := (show OU wr.drew gx A3 n3 c3 (zs.take q) from hou).alloc _
      have nsA := NS.one wr.drew hyw (g := wr.drew.heap.size) rfl
      have hbA : gx ≤ (wr.drew.alloc (.cells #[.int .u32 y] 33)).heap.size := Nat.le_of_lt hXA.lt
      have x1d : wr.drew.cell? ⟨gx, 1, none⟩ = some (.slice A3 n3 c3) := x1
      have x1a := hXA.cell 1
      have x1b : (wr.alloc (.cells #[.int .u32 y] 33)).cell? ⟨gx, 1, none⟩ = some (.slice A3 n3 c3) := x1a
      clear hy z0w
      go_upto_region 12 with fail
      rename_i hk
      have HKK := Lib.hid hk
      clear hk x0 k1
      refine wp_region_held_drew (S := (fun w' => w'.cell? ⟨b, off + j * 2 + 1, none⟩ = some (.slice (some ⟨b4, off4, none⟩) n2 c2) ∧ w'.cell? ⟨b4, off4 + q, none⟩ = some (.int .u32 y))) (by kernel_rfl) ?_ (fun hHeld => ?_)
      · (first | exact KX.out _ bd1 | exact KX.out _ bd2 | exact KX.out _ bd5 | exact KX.out _ bd6)
      refine wpAnyH_take (i := 0) (v := ?qc1v0) rfl (by kernel_rfl) (by kernel_rfl) (by kernel_rfl) (by intro _ _ _ h; exact h) (Or.inl ⟨by rfl, ?qc1hy0⟩) (by assumption) ?qc1rest0
      case qc1hy0 => (intro w hSw; (try dsimp only at hSw); go_simp; try with_reducible rfl)
      try simp only [Act.put, List.getElem_toArray, List.getElem_cons_succ, List.getElem_cons_zero, List.setIfInBounds_toArray, List.set_cons_zero, List.set_cons_succ]
      refine wpAnyH_take (i := 2) (v := ?qc1v2) rfl (by kernel_rfl) (by kernel_rfl) (by kernel_rfl) (by intro _ _ _ h; exact h) (Or.inl ⟨by rfl, ?qc1hy2⟩) (by assumption) ?qc1rest2
      case qc1hy2 => (intro w hSw; (try dsimp only at hSw); go_simp; try with_reducible rfl)
      try simp only [Act.put, List.getElem_toArray, List.getElem_cons_succ, List.getElem_cons_zero, List.setIfInBounds_toArray, List.set_cons_zero, List.set_cons_succ]
      refine wpAnyH_take (i := 3) (v := ?qc1v3) rfl (by kernel_rfl) (by kernel_rfl) (by kernel_rfl) (by intro _ _ _ h; exact h) (Or.inl ⟨by rfl, ?qc1hy3⟩) (by assumption) ?qc1rest3
      case qc1hy3 => (intro w hSw; (try dsimp only at hSw); go_simp; try with_reducible rfl)
      try simp only [Act.put, List.getElem_toArray, List.getElem_cons_succ, List.getElem_cons_zero, List.setIfInBounds_toArray, List.set_cons_zero, List.set_cons_succ]
      refine wpAnyH_take (i := 4) (v := ?qc1v4) rfl (by kernel_rfl) (by kernel_rfl) (by kernel_rfl) (by intro _ _ _ h; exact h) (Or.inl ⟨by rfl, ?qc1hy4⟩) (by assumption) ?qc1rest4
      case qc1hy4 => (intro w hSw; (try dsimp only at hSw); go_simp; try with_reducible rfl)
      try simp only [Act.put, List.getElem_toArray, List.getElem_cons_succ, List.getElem_cons_zero, List.setIfInBounds_toArray, List.set_cons_zero, List.set_cons_succ]
      refine wpAnyH_take (i := 5) (v := ?qc1v5) rfl (by kernel_rfl) (by kernel_rfl) (by kernel_rfl) (by intro _ _ _ h; exact h) (Or.inl ⟨by rfl, ?qc1hy5⟩) (by assumption) ?qc1rest5
      case qc1hy5 => (intro w hSw; (try dsimp only at hSw); go_simp; try with_reducible rfl)
      try simp only [Act.put, List.getElem_toArray, List.getElem_cons_succ, List.getElem_cons_zero, List.setIfInBounds_toArray, List.set_cons_zero, List.set_cons_succ]
      refine wpAnyH_take (i := 6) (v := ?qc1v6) rfl (by kernel_rfl) (by kernel_rfl) (by kernel_rfl) (by intro _ _ _ h; exact h) (Or.inl ⟨by rfl, ?qc1hy6⟩) (by assumption) ?qc1rest6
      case qc1hy6 => (intro w hSw; (try dsimp only at hSw); go_simp; try with_reducible rfl)
      try simp only [Act.put, List.getElem_toArray, List.getElem_cons_succ, List.getElem_cons_zero, List.setIfInBounds_toArray, List.set_cons_zero, List.set_cons_succ]
      refine wpAnyH_take (i := 7) (v := ?qc1v7) rfl (by kernel_rfl) (by kernel_rfl) (by kernel_rfl) (by intro _ _ _ h; exact h) (Or.inl ⟨by rfl, ?qc1hy7⟩) (by assumption) ?qc1rest7
      case qc1hy7 => (intro w hSw; (try dsimp only at hSw); go_simp; try with_reducible rfl)
      try simp only [Act.put, List.getElem_toArray, List.getElem_cons_succ, List.getElem_cons_zero, List.setIfInBounds_toArray, List.set_cons_zero, List.set_cons_succ]
      refine wpAnyH_take (i := 8) (v := ?qc1v8) rfl (by kernel_rfl) (by kernel_rfl) (by kernel_rfl) (by intro _ _ _ h; exact h) (Or.inl ⟨by rfl, ?qc1hy8⟩) (by assumption) ?qc1rest8
      case qc1hy8 => (intro w hSw; (try dsimp only at hSw); go_simp; try with_reducible rfl)
      try simp only [Act.put, List.getElem_toArray, List.getElem_cons_succ, List.getElem_cons_zero, List.setIfInBounds_toArray, List.set_cons_zero, List.set_cons_succ]
      refine wpAnyH_take (i := 9) (v := ?qc1v9) rfl (by kernel_rfl) (by kernel_rfl) (by kernel_rfl) (by intro _ _ _ h; exact h) (Or.inl ⟨by rfl, ?qc1hy9⟩) (by assumption) ?qc1rest9
      case qc1hy9 => (intro w hSw; (try dsimp only at hSw); go_simp; try with_reducible rfl)
      try simp only [Act.put, List.getElem_toArray, List.getElem_cons_succ, List.getElem_cons_zero, List.setIfInBounds_toArray, List.set_cons_zero, List.set_cons_succ]
      refine wpAnyH_ready (rs := [1, 10]) (by kernel_rfl) (by simp) ?_
      refine AllReadyH.cons rfl (fun K hK => ?_) (AllReadyH.cons rfl (fun K hK => ?_) AllReadyH.nil)
      · go_simp
        go_wp2_with (fail)
        refine hK.out _ _ ?_ (fun hHeld => ?_)
        · try dsimp only
          (first | exact KX.out _ bd1 | exact KX.out _ bd2 | exact KX.out _ bd5 | exact KX.out _ bd6)
        clear hK K
        refine wpAnyH_ready (rs := [10]) (by kernel_rfl) (by simp) ?_
        refine AllReadyH.cons rfl (fun K hK => ?_) AllReadyH.nil
        go_simp
        go_wp2_with (fail)
        refine hK.out _ _ ?_ (fun hHeld => ?_)
        · try dsimp only
          (first | exact KX.out _ bd1 | exact KX.out _ bd2 | exact KX.out _ bd5 | exact KX.out _ bd6)
        clear hK K
        refine wpAnyH_ready (rs := [11]) (by kernel_rfl) (by simp) ?_
        refine AllReadyH.cons rfl (fun K hK => ?_) AllReadyH.nil
        refine step_appU rfl (.tmp 73) (.tmp 82) rfl gx A3 n3 c3 (zs.take q) (by rfl) ouA (wr.drew.heap.size + 1) (some ⟨wr.drew.heap.size, 0, none⟩) 1 1 [y] (by rfl) nsA (by rw [List.length_singleton, List.length_take]; omega) hbA ?_; intro A5 n5 c5 w5 o5 b5 g5 hat5; have hX5 := hXA.grown g5 (by intro e; first | exact own_blk_ne ouA.2.1 hXA (by decide) e | exact own_blk_ne ouA.2.1 hXA (by decide) e.symm); have f5 := hX5.frozen 1; have cc5 := hX5.cell 1; have hX6 := hX5.set_ 1 (.slice A5 n5 c5); have hg6 := only_setCell (World.grownBy.refl w5 (some gx)) (p := ⟨gx, 1, none⟩) (.inl rfl) (.slice A5 n5 c5); have o6 : OU (w5.setCell ⟨gx, 1, none⟩ (.slice A5 n5 c5)) gx A5 n5 c5 (zs.take q ++ [y]) := ⟨o5.1, own_at o5.2.1 hX5 (by decide) hg6, o5.2.2⟩; have bd5 := bd2.trans (b5.mono hwgx); have bd6 := bd5.setCell (p := ⟨gx, 1, none⟩) hwgx (.slice A5 n5 c5); have B5 := BA.trans (b5.mono (Nat.le_of_eq HGX.out)); have B6 := B5.setCell (p := ⟨gx, 1, none⟩) (Nat.le_of_eq HGX.out) (.slice A5 n5 c5); simp only [List.setIfInBounds_toArray, List.set_cons_succ, List.set_cons_zero] at hX6
        refine hK.out _ _ ?_ (fun hHeld => ?_)
        · try dsimp only
          (first | exact KX.out _ bd1 | exact KX.out _ bd2 | exact KX.out _ bd5 | exact KX.out _ bd6)
        clear hK K
        refine wpAnyH_take (i := 12) (v := ?qc21v12) rfl (by kernel_rfl) (by kernel_rfl) (by kernel_rfl) (by intro _ _ _ h; exact h) (Or.inl ⟨by rfl, ?qc21hy12⟩) (by assumption) ?qc21rest12
        case qc21hy12 => (intro w hSw; (try dsimp only at hSw); go_simp; try with_reducible rfl)
        try simp only [Act.put, List.getElem_toArray, List.getElem_cons_succ, List.getElem_cons_zero, List.setIfInBounds_toArray, List.set_cons_zero, List.set_cons_succ]
        refine wpAnyH_ready (rs := [13]) (by kernel_rfl) (by simp) ?_
        refine AllReadyH.cons rfl (fun K hK => ?_) AllReadyH.nil
        go_simp
        go_wp2_with (fail)
        refine hK.out _ _ ?_ (fun hHeld => ?_)
        · try dsimp only
          (first | exact KX.out _ bd1 | exact KX.out _ bd2 | exact KX.out _ bd5 | exact KX.out _ bd6)
        clear hK K
        refine wpAnyH_done (by kernel_rfl) ?_ _
        refine HKK.out _ _ ?_
        go_wp2_with fail
        go_roundw
        case rel => exact ⟨q + 1, A5, n5, c5, by go_num, by omega, (.inr (by omega)), hX6, by rw [HY.out]; exact o6, B6⟩
        case measure => simp [intOf]; omega
      · go_simp
        go_wp2_with (fail)
        refine hK.out _ _ ?_ (fun hHeld => ?_)
        · try dsimp only
          (first | exact KX.out _ bd1 | exact KX.out _ bd2 | exact KX.out _ bd5 | exact KX.out _ bd6)
        clear hK K
        refine wpAnyH_ready (rs := [1]) (by kernel_rfl) (by simp) ?_
        refine AllReadyH.cons rfl (fun K hK => ?_) AllReadyH.nil
        go_simp
        go_wp2_with (fail)
        refine hK.out _ _ ?_ (fun hHeld => ?_)
        · try dsimp only
          (first | exact KX.out _ bd1 | exact KX.out _ bd2 | exact KX.out _ bd5 | exact KX.out _ bd6)
        clear hK K
        refine wpAnyH_ready (rs := [11]) (by kernel_rfl) (by simp) ?_
        refine AllReadyH.cons rfl (fun K hK => ?_) AllReadyH.nil
        refine step_appU rfl (.tmp 73) (.tmp 82) rfl gx A3 n3 c3 (zs.take q) (by rfl) ouA (wr.drew.heap.size + 1) (some ⟨wr.drew.heap.size, 0, none⟩) 1 1 [y] (by rfl) nsA (by rw [List.length_singleton, List.length_take]; omega) hbA ?_; intro A5 n5 c5 w5 o5 b5 g5 hat5; have hX5 := hXA.grown g5 (by intro e; first | exact own_blk_ne ouA.2.1 hXA (by decide) e | exact own_blk_ne ouA.2.1 hXA (by decide) e.symm); have f5 := hX5.frozen 1; have cc5 := hX5.cell 1; have hX6 := hX5.set_ 1 (.slice A5 n5 c5); have hg6 := only_setCell (World.grownBy.refl w5 (some gx)) (p := ⟨gx, 1, none⟩) (.inl rfl) (.slice A5 n5 c5); have o6 : OU (w5.setCell ⟨gx, 1, none⟩ (.slice A5 n5 c5)) gx A5 n5 c5 (zs.take q ++ [y]) := ⟨o5.1, own_at o5.2.1 hX5 (by decide) hg6, o5.2.2⟩; have bd5 := bd2.trans (b5.mono hwgx); have bd6 := bd5.setCell (p := ⟨gx, 1, none⟩) hwgx (.slice A5 n5 c5); have B5 := BA.trans (b5.mono (Nat.le_of_eq HGX.out)); have B6 := B5.setCell (p := ⟨gx, 1, none⟩) (Nat.le_of_eq HGX.out) (.slice A5 n5 c5); simp only [List.setIfInBounds_toArray, List.set_cons_succ, List.set_cons_zero] at hX6
        refine hK.out _ _ ?_ (fun hHeld => ?_)
        · try dsimp only
          (first | exact KX.out _ bd1 | exact KX.out _ bd2 | exact KX.out _ bd5 | exact KX.out _ bd6)
        clear hK K
        refine wpAnyH_take (i := 12) (v := ?qc30v12) rfl (by kernel_rfl) (by kernel_rfl) (by kernel_rfl) (by intro _ _ _ h; exact h) (Or.inl ⟨by rfl, ?qc30hy12⟩) (by assumption) ?qc30rest12
        case qc30hy12 => (intro w hSw; (try dsimp only at hSw); go_simp; try with_reducible rfl)
        try simp only [Act.put, List.getElem_toArray, List.getElem_cons_succ, List.getElem_cons_zero, List.setIfInBounds_toArray, List.set_cons_zero, List.set_cons_succ]
        refine wpAnyH_ready (rs := [13]) (by kernel_rfl) (by simp) ?_
        refine AllReadyH.cons rfl (fun K hK => ?_) AllReadyH.nil
        go_simp
        go_wp2_with (fail)
        refine hK.out _ _ ?_ (fun hHeld => ?_)
        · try dsimp only
          (first | exact KX.out _ bd1 | exact KX.out _ bd2 | exact KX.out _ bd5 | exact KX.out _ bd6)
        clear hK K
        refine wpAnyH_done (by kernel_rfl) ?_ _
        refine HKK.out _ _ ?_
        go_wp2_with fail
        go_roundw
        case rel => exact ⟨q + 1, A5, n5, c5, by go_num, by omega, (.inr (by omega)), hX6, by rw [HY.out]; exact o6, B6⟩
        case measure => simp [intOf]; omega
end Go.Proofs.YtlpkngjeihoknaaDoor
