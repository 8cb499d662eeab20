/- Walks of layer 12 (filter): Any, and the document's. No conditions but sizes. -/
import Derived.Test.YtnhkpnohadbcdaaDoorProg
import Derived.WalkKit
import Derived.WalkSpells
import Derived.WalkLawsBesides
import Derived.Outline
import Derived.Deep.QuietTactic
import Derived.BigQuiet
import Derived.Handy
import Derived.Lib.Hide
import Derived.Test.YtnhkpnohadbcdaaDoorFilE
import Derived.Test.YtnhkpnohadbcdaaDoorDeep
import Derived.Test.YtnhkpnohadbcdaaDoorOpenRange
namespace Go.Proofs.YtnhkpnohadbcdaaDoor
open Go.RowKit
set_option linter.unusedSimpArgs false
theorem RR.below {w w' : World} {A : Option Addr} {n : Nat} {ms : List Rg} (h : RR w A n ms) (hb : Below w.heap.size w w') : RR w' A n ms :=
  ⟨h.1, fun j m hj => by
    obtain ⟨ha, b, off, e, hlt, h0, h1, h2, h3⟩ := h.2 j m hj
    exact ⟨ha, b, off, e, Nat.lt_of_lt_of_le hlt hb.size, (hb.cell hlt).trans h0, (hb.cell hlt).trans h1, (hb.cell hlt).trans h2, (hb.cell hlt).trans h3⟩⟩
theorem RR.form {w : World} {A : Option Addr} {n : Nat} {ms : List Rg} (h : RR w A n ms) {j : Nat} (hj : j < n) : ∃ m b off, ms[j]? = some m ∧ m.a < 4294967296 ∧ A = some ⟨b, off, none⟩ ∧ b < w.heap.size ∧ w.cell? ⟨b, off + j * 4, none⟩ = some (.int .u32 m.a) ∧ w.cell? ⟨b, off + j * 4 + 1, none⟩ = some (.int .i64 m.n) ∧ w.cell? ⟨b, off + j * 4 + 2, none⟩ = some (.int .i64 m.lo) ∧ w.cell? ⟨b, off + j * 4 + 3, none⟩ = some (.int .i64 m.hi) := by
  have hl : j < ms.length := by rw [← h.1]; exact hj
  obtain ⟨ha, b, off, e, r⟩ := h.2 j ms[j] (List.getElem?_eq_getElem hl)
  exact ⟨ms[j], b, off, List.getElem?_eq_getElem hl, ha, e, r⟩
def rgIn' (m : Rg) (b : Nat) (k : Int) : Bool := rgIn m.a m.n m.lo m.hi b k
def rgAny (ms : List Rg) (b : Nat) (k : Int) : Bool := ms.any fun m => rgIn' m b k
theorem rgAny_some {ms : List Rg} {j : Nat} {m : Rg} {b : Nat} {k : Int} (h : ms[j]? = some m) (hm : rgIn' m b k = true) : rgAny ms b k = true :=
  List.any_eq_true.2 ⟨m, List.mem_of_getElem? h, hm⟩
theorem rgAny_none {ms : List Rg} {b : Nat} {k : Int} {n : Nat} (hn : n = ms.length) (h : ∀ j m, j < n → ms[j]? = some m → rgIn' m b k = false) : rgAny ms b k = false := by
  refine List.any_eq_false.2 fun m hm => ?_
  obtain ⟨j, hj⟩ := List.getElem?_of_mem hm
  rw [h j m (by rw [hn]; exact (List.getElem?_eq_some_iff.1 hj).1) hj]
  simp
set_option maxHeartbeats 1000000 in
set_option maxRecDepth 100000 in
/-- The test that Any hands to the library. -/
theorem anyFn (m : Rg) (ha : m.a < 4294967296) (b : Nat) (hb : b < 4294967296) (k : Int) (g : Nat) (w : World) (c0 : w.cell? ⟨g, 0, none⟩ = some (.int .u32 b)) (c1 : w.cell? ⟨g, 1, none⟩ = some (.int .i64 k)) :
    Calls Tryd.prog 95 #[.agg #[.int .u32 m.a, .int .i64 m.n, .int .i64 m.lo, .int .i64 m.hi], .pointer (some ⟨g, 0, none⟩)] w fun en w' => en = .returned (.bool (rgIn' m b k)) ∧ Below w.heap.size w w' := by
  have hg := lt_of_cell c0
  obtain ⟨a, n, lo, hi⟩ := m
  have b0 := (Below.refl w.heap.size w).alloc (Nat.le_refl _) (.cells #[.int .u32 a, .int .i64 n, .int .i64 lo, .int .i64 hi] 47)
  have hX := Blk.new w 47 #[.int .u32 a, .int .i64 n, .int .i64 lo, .int .i64 hi]
  go_enter Tryd.func95, Tryd.ntmps95
  have c_hX0 := hX.cell 0
  have c_hX1 := hX.cell 1
  have c_hX2 := hX.cell 2
  have c_hX3 := hX.cell 3
  go_wp2_with fail
  refine (filterIn a ha n lo hi b hb k _).mono ?_
  rintro _ w1 ⟨rfl, b1⟩
  clear c_hX0 c_hX1 c_hX2 c_hX3
  have b01 := btr b0 b1 b0.size
  have hX_1 := hX.below b1 hX.lt
  have c_hX0 := hX_1.cell 0
  have c_hX1 := hX_1.cell 1
  have c_hX2 := hX_1.cell 2
  have c_hX3 := hX_1.cell 3
  go_wp2_with fail
  go_ret
  exact ⟨rfl, b01⟩
set_option maxHeartbeats 2000000 in
set_option maxRecDepth 100000 in
theorem anyIdx (A : Option Addr) (n c : Nat) (ms : List Rg) (b : Nat) (hb : b < 4294967296) (k : Int) (g : Nat) (w : World) (h : RR w A n ms) (hn : n ≤ 100000) (c0 : w.cell? ⟨g, 0, none⟩ = some (.int .u32 b)) (c1 : w.cell? ⟨g, 1, none⟩ = some (.int .i64 k)) :
    Calls Tryd.prog 117 #[.slice A n c, .func (.func 95) #[] #[.pointer (some ⟨g, 0, none⟩)]] w fun en w' => (∃ v : Int, en = .returned (.int .i64 v) ∧ decide (0 ≤ v) = rgAny ms b k) ∧ Below w.heap.size w w' := by
  have hg := lt_of_cell c0
  have HN := Lib.hid h.1
  go_enter Tryd.func117, Tryd.ntmps117
  go_wp2_with fail
  go_loopw [8] (fun i wr => ∃ j : Nat, j ≤ n ∧ i = .int .i64 j ∧ Below w.heap.size w wr ∧ Hid (∀ i m, i < j → ms[i]? = some m → rgIn' m b k = false)) (fun i _ => n - (intOf i).toNat)
  case atStart => exact ⟨0, by omega, rfl, Below.refl _ _, Lib.hid fun i m h => by omega⟩
  case round =>
    obtain ⟨j, hj, rfl, hbw, hno⟩ := hrel
    by_cases hlt : j < n
    · obtain ⟨m, bb, off, hm, ha, rfl, hbb, k0, k1, k2, k3⟩ := (h.below hbw).form hlt
      have hd : decide ((j : Int) < n) = true := decide_eq_true (by omega)
      have g0 := (hbw.cell (p := ⟨g, 0, none⟩) hg).trans c0
      have g1 := (hbw.cell (p := ⟨g, 1, none⟩) hg).trans c1
      have HM := Lib.hid hm
      clear hm
      cases hr : rgIn' m b k
      · have HR := Lib.hid hr
        have HC := anyFn m ha b hb k g wr g0 g1
        rw [hr] at HC
        clear hr
        go_wp2_with fail
        refine HC.mono ?_
        rintro _ w1 ⟨rfl, b1⟩
        have b01 := btr hbw b1 hbw.size
        go_wp2_with fail
        go_roundw
        case rel => exact ⟨j + 1, by omega, by go_num, b01, Lib.hid fun i m' h1 h2 => by
          rcases Nat.lt_or_ge i j with h3 | h3
          · exact hno.out i m' h3 h2
          · have e : i = j := by omega
            subst e
            rw [HM.out] at h2
            injection h2 with h2
            subst h2
            exact HR.out⟩
        case measure => simp [intOf]; omega
      · have HR := Lib.hid (rgAny_some HM.out hr)
        have HC := anyFn m ha b hb k g wr g0 g1
        rw [hr] at HC
        clear hr
        go_wp2_with fail
        refine HC.mono ?_
        rintro _ w1 ⟨rfl, b1⟩
        have b01 := btr hbw b1 hbw.size
        go_wp2_with fail
        go_ret
        exact ⟨⟨j, rfl, by rw [HR.out]; exact decide_eq_true (by omega)⟩, b01⟩
    · have hd : decide ((j : Int) < n) = false := decide_eq_false (by omega)
      have HR := Lib.hid (rgAny_none HN.out (fun i m h1 h2 => hno.out i m (by omega) h2))
      go_wp2_with fail
      go_ret
      exact ⟨⟨-1, rfl, by rw [HR.out]; decide⟩, hbw⟩
set_option maxHeartbeats 1000000 in
set_option maxRecDepth 100000 in
theorem anyHas (A : Option Addr) (n c : Nat) (ms : List Rg) (b : Nat) (hb : b < 4294967296) (k : Int) (g : Nat) (w : World) (h : RR w A n ms) (hn : n ≤ 100000) (c0 : w.cell? ⟨g, 0, none⟩ = some (.int .u32 b)) (c1 : w.cell? ⟨g, 1, none⟩ = some (.int .i64 k)) :
    Calls Tryd.prog 94 #[.slice A n c, .func (.func 95) #[] #[.pointer (some ⟨g, 0, none⟩)]] w fun en w' => en = .returned (.bool (rgAny ms b k)) ∧ Below w.heap.size w w' := by
  have HC := anyIdx A n c ms b hb k g w h hn c0 c1
  obtain ⟨r, hr⟩ : ∃ r, rgAny ms b k = r := ⟨_, rfl⟩
  rw [hr] at HC ⊢
  clear hr
  go_enter Tryd.func94, Tryd.ntmps94
  go_wp2_with fail
  refine HC.mono ?_
  rintro _ w1 ⟨⟨v, rfl, hv⟩, b1⟩
  cases r
  all_goals
    go_wp2_with fail
    go_ret
    exact ⟨ret_b (by first | exact hv | rfl), b1⟩
set_option maxHeartbeats 1000000 in
set_option maxRecDepth 100000 in
theorem filterAny (A : Option Addr) (n c : Nat) (ms : List Rg) (b : Nat) (hb : b < 4294967296) (k : Int) (w : World) (h : RR w A n ms) (hn : n ≤ 100000) :
    Calls Tryd.prog 62 #[.slice A n c, .agg #[.int .u32 b, .int .i64 k]] w fun en w' => en = .returned (.bool (rgAny ms b k)) ∧ Below w.heap.size w w' := by
  have b0 := (Below.refl w.heap.size w).alloc (Nat.le_refl _) (.cells #[.int .u32 b, .int .i64 k] 24)
  have hX := Blk.new w 24 #[.int .u32 b, .int .i64 k]
  go_enter Tryd.func62, Tryd.ntmps62
  go_wp2_with fail
  refine (anyHas A n c ms b hb k w.heap.size _ (h.below b0) hn (hX.cell 0) (hX.cell 1)).mono ?_
  rintro _ w1 ⟨rfl, b1⟩
  have b01 := btr b0 b1 b0.size
  have hX_1 := hX.below b1 hX.lt
  go_wp2_with fail
  go_ret
  exact ⟨rfl, b01⟩
set_option maxHeartbeats 2000000 in
set_option maxRecDepth 100000 in
theorem ref12Any (A : Option Addr) (n c : Nat) (ms : List Rg) (b : Nat) (hb : b < 4294967296) (k : Int) (w : World) (h : RR w A n ms) (hn : n ≤ 100000) :
    Calls Tryd.prog 63 #[.slice A n c, .agg #[.int .u32 b, .int .i64 k]] w fun en w' => en = .returned (.bool (rgAny ms b k)) ∧ Below w.heap.size w w' := by
  have HN := Lib.hid h.1
  obtain ⟨W, hW⟩ : ∃ W, w.alloc (.cells #[.int .u32 b, .int .i64 k] 24) = W := ⟨_, rfl⟩
  have b0 := (Below.refl w.heap.size w).alloc (Nat.le_refl _) (.cells #[.int .u32 b, .int .i64 k] 24)
  have hX := Blk.new w 24 #[.int .u32 b, .int .i64 k]
  rw [hW] at b0 hX
  go_enter Tryd.func63, Tryd.ntmps63
  go_wp2_with fail
  clear hW
  go_loopw [5] (fun i wr => ∃ j : Nat, j ≤ n ∧ i = .int .i64 j ∧ Below w.heap.size w wr ∧ Blk wr w.heap.size 24 #[.int .u32 b, .int .i64 k] ∧ Hid (∀ i m, i < j → ms[i]? = some m → rgIn' m b k = false)) (fun i _ => n - (intOf i).toNat)
  case atStart => exact ⟨0, by omega, rfl, b0, hX, Lib.hid fun i m h => by omega⟩
  case round =>
    obtain ⟨j, hj, rfl, hbw, hX1, hno⟩ := hrel
    by_cases hlt : j < n
    · obtain ⟨m, bb, off, hm, ha, rfl, hbb, k0, k1, k2, k3⟩ := (h.below hbw).form hlt
      have hd : decide ((j : Int) < n) = true := decide_eq_true (by omega)
      have hxl := hX1.lt
      have g0 := hX1.cell 0
      have g1 := hX1.cell 1
      have HM := Lib.hid hm
      clear hm
      obtain ⟨a, nn, lo, hi⟩ := m
      cases hr : rgIn' ⟨a, nn, lo, hi⟩ b k
      · have HR := Lib.hid hr
        have HC := fun v => ref12In a ha nn lo hi b hb k v
        rw [show rgIn a nn lo hi b k = false from hr] at HC
        clear hr
        go_wp2_with fail
        refine wp_region_held_drew (S := (fun w' => Below wr.heap.size wr w' ∧ ∀ b o, b < wr.heap.size → w'.cell? ⟨b, o, none⟩ = wr.cell? ⟨b, o, none⟩)) (by kernel_rfl) ?_ (fun hHeld => ?_)
        · (first | exact heldB_keep b1 hHeld | exact heldB_refl _)
        refine wpAnyH_take (i := 0) (v := ?q1v0) rfl (by kernel_rfl) (by kernel_rfl) (by kernel_rfl) (by intro _ _ _ h; exact h) (Or.inl ⟨by rfl, ?q1hy0⟩) (by assumption) ?q1rest0
        case q1hy0 => (intro w hSw; (try dsimp only at hSw); go_simp; try with_reducible rfl)
        try simp only [Act.put, List.getElem_toArray, List.getElem_cons_succ, List.getElem_cons_zero, List.setIfInBounds_toArray, List.set_cons_zero, List.set_cons_succ]
        refine wpAnyH_take (i := 1) (v := ?q1v1) rfl (by kernel_rfl) (by kernel_rfl) (by kernel_rfl) (by intro _ _ _ h; exact h) (Or.inl ⟨by rfl, ?q1hy1⟩) (by assumption) ?q1rest1
        case q1hy1 => (intro w hSw; (try dsimp only at hSw); go_simp; try with_reducible rfl)
        try simp only [Act.put, List.getElem_toArray, List.getElem_cons_succ, List.getElem_cons_zero, List.setIfInBounds_toArray, List.set_cons_zero, List.set_cons_succ]
        refine wpAnyH_take (i := 2) (v := ?q1v2) rfl (by kernel_rfl) (by kernel_rfl) (by kernel_rfl) (by intro _ _ _ h; exact h) (Or.inl ⟨by rfl, ?q1hy2⟩) (by assumption) ?q1rest2
        case q1hy2 => (intro w hSw; (try dsimp only at hSw); go_simp; try with_reducible rfl)
        try simp only [Act.put, List.getElem_toArray, List.getElem_cons_succ, List.getElem_cons_zero, List.setIfInBounds_toArray, List.set_cons_zero, List.set_cons_succ]
        refine wpAnyH_take (i := 3) (v := ?q1v3) rfl (by kernel_rfl) (by kernel_rfl) (by kernel_rfl) (by intro _ _ _ h; exact h) (Or.inl ⟨by rfl, ?q1hy3⟩) (by assumption) ?q1rest3
        case q1hy3 => (intro w hSw; (try dsimp only at hSw); go_simp; try with_reducible rfl)
        try simp only [Act.put, List.getElem_toArray, List.getElem_cons_succ, List.getElem_cons_zero, List.setIfInBounds_toArray, List.set_cons_zero, List.set_cons_succ]
        refine wpAnyH_take (i := 4) (v := ?q1v4) rfl (by kernel_rfl) (by kernel_rfl) (by kernel_rfl) (by intro _ _ _ h; exact h) (Or.inl ⟨by rfl, ?q1hy4⟩) (by assumption) ?q1rest4
        case q1hy4 => (intro w hSw; (try dsimp only at hSw); go_simp; try with_reducible rfl)
        try simp only [Act.put, List.getElem_toArray, List.getElem_cons_succ, List.getElem_cons_zero, List.setIfInBounds_toArray, List.set_cons_zero, List.set_cons_succ]
        refine wpAnyH_ready (rs := [5]) (by kernel_rfl) (by simp) ?_
        refine AllReadyH.cons rfl (fun K hK => ?_) AllReadyH.nil
        go_simp
        go_wp2_with (go_at_call 61; refine (HC _).mono ?_; rintro _ w1 ⟨rfl, b1⟩)
        refine hK.out _ _ ?_ (fun hHeld => ?_)
        · try dsimp only
          (first | exact heldB_keep b1 hHeld | exact heldB_refl _)
        clear hK K
        refine wpAnyH_done (by kernel_rfl) ?_ _
        have bh1 := hHeld.1
        clear hHeld
        have b0h1 := btr hbw bh1 hbw.size
        have hX1_h1 := hX1.below bh1 hX1.lt
        go_wp2_with fail
        go_roundw
        case rel => exact ⟨j + 1, by omega, by go_num, b0h1, hX1_h1, Lib.hid fun i m' h1 h2 => by
          rcases Nat.lt_or_ge i j with h3 | h3
          · exact hno.out i m' h3 h2
          · have e : i = j := by omega
            subst e
            rw [HM.out] at h2
            injection h2 with h2
            subst h2
            exact HR.out⟩
        case measure => simp [intOf]; omega
      · have HR := Lib.hid (rgAny_some HM.out hr)
        have HC := fun v => ref12In a ha nn lo hi b hb k v
        rw [show rgIn a nn lo hi b k = true from hr] at HC
        clear hr
        go_wp2_with fail
        refine wp_region_held_drew (S := (fun w' => Below wr.heap.size wr w' ∧ ∀ b o, b < wr.heap.size → w'.cell? ⟨b, o, none⟩ = wr.cell? ⟨b, o, none⟩)) (by kernel_rfl) ?_ (fun hHeld => ?_)
        · (first | exact heldB_keep b1 hHeld | exact heldB_refl _)
        refine wpAnyH_take (i := 0) (v := ?q2v0) rfl (by kernel_rfl) (by kernel_rfl) (by kernel_rfl) (by intro _ _ _ h; exact h) (Or.inl ⟨by rfl, ?q2hy0⟩) (by assumption) ?q2rest0
        case q2hy0 => (intro w hSw; (try dsimp only at hSw); go_simp; try with_reducible rfl)
        try simp only [Act.put, List.getElem_toArray, List.getElem_cons_succ, List.getElem_cons_zero, List.setIfInBounds_toArray, List.set_cons_zero, List.set_cons_succ]
        refine wpAnyH_take (i := 1) (v := ?q2v1) rfl (by kernel_rfl) (by kernel_rfl) (by kernel_rfl) (by intro _ _ _ h; exact h) (Or.inl ⟨by rfl, ?q2hy1⟩) (by assumption) ?q2rest1
        case q2hy1 => (intro w hSw; (try dsimp only at hSw); go_simp; try with_reducible rfl)
        try simp only [Act.put, List.getElem_toArray, List.getElem_cons_succ, List.getElem_cons_zero, List.setIfInBounds_toArray, List.set_cons_zero, List.set_cons_succ]
        refine wpAnyH_take (i := 2) (v := ?q2v2) rfl (by kernel_rfl) (by kernel_rfl) (by kernel_rfl) (by intro _ _ _ h; exact h) (Or.inl ⟨by rfl, ?q2hy2⟩) (by assumption) ?q2rest2
        case q2hy2 => (intro w hSw; (try dsimp only at hSw); go_simp; try with_reducible rfl)
        try simp only [Act.put, List.getElem_toArray, List.getElem_cons_succ, List.getElem_cons_zero, List.setIfInBounds_toArray, List.set_cons_zero, List.set_cons_succ]
        refine wpAnyH_take (i := 3) (v := ?q2v3) rfl (by kernel_rfl) (by kernel_rfl) (by kernel_rfl) (by intro _ _ _ h; exact h) (Or.inl ⟨by rfl, ?q2hy3⟩) (by assumption) ?q2rest3
        case q2hy3 => (intro w hSw; (try dsimp only at hSw); go_simp; try with_reducible rfl)
        try simp only [Act.put, List.getElem_toArray, List.getElem_cons_succ, List.getElem_cons_zero, List.setIfInBounds_toArray, List.set_cons_zero, List.set_cons_succ]
        refine wpAnyH_take (i := 4) (v := ?q2v4) rfl (by kernel_rfl) (by kernel_rfl) (by kernel_rfl) (by intro _ _ _ h; exact h) (Or.inl ⟨by rfl, ?q2hy4⟩) (by assumption) ?q2rest4
        case q2hy4 => (intro w hSw; (try dsimp only at hSw); go_simp; try with_reducible rfl)
        try simp only [Act.put, List.getElem_toArray, List.getElem_cons_succ, List.getElem_cons_zero, List.setIfInBounds_toArray, List.set_cons_zero, List.set_cons_succ]
        refine wpAnyH_ready (rs := [5]) (by kernel_rfl) (by simp) ?_
        refine AllReadyH.cons rfl (fun K hK => ?_) AllReadyH.nil
        go_simp
        go_wp2_with (go_at_call 61; refine (HC _).mono ?_; rintro _ w1 ⟨rfl, b1⟩)
        refine hK.out _ _ ?_ (fun hHeld => ?_)
        · try dsimp only
          (first | exact heldB_keep b1 hHeld | exact heldB_refl _)
        clear hK K
        refine wpAnyH_done (by kernel_rfl) ?_ _
        have bh1 := hHeld.1
        clear hHeld
        have b0h1 := btr hbw bh1 hbw.size
        have hX1_h1 := hX1.below bh1 hX1.lt
        go_wp2_with fail
        go_ret
        exact ⟨ret_b HR.out.symm, b0h1⟩
    · have hd : decide ((j : Int) < n) = false := decide_eq_false (by omega)
      have HR := Lib.hid (rgAny_none HN.out (fun i m h1 h2 => hno.out i m (by omega) h2))
      go_wp2_with fail
      go_ret
      exact ⟨ret_b HR.out.symm, hbw⟩
end Go.Proofs.YtnhkpnohadbcdaaDoor
