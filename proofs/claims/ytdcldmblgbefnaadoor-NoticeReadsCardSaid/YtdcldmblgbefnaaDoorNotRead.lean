/- Walks of layer 8 (notice): Read, and the document's. No conditions but sizes. -/
import Derived.Test.YtdcldmblgbefnaaDoorProg
import Derived.WalkKit
import Derived.WalkSpells
import Derived.WalkLawsBesides
import Derived.Outline
import Derived.Deep.QuietTactic
import Derived.BigQuiet
import Derived.Handy
import Derived.Lib.Hide
import Derived.Laws.ResultCell
import Derived.Deep.RegionHeld
import Derived.Test.YtdcldmblgbefnaaDoorNotPut
namespace Go.Proofs.YtdcldmblgbefnaaDoor
open Go.RowKit
theorem fault_info : (Tryd.prog.info? 29).map (·.size) = some 3 := by kernel_rfl
/-- The results of a function that hands back a fault out of a cell, and a number. -/
theorem fault_ret {fn : Func} {p u : Tmp} (h : fn.results = #[.cell p 29, .tmp u]) (tmps : Array Value) (w : World) (g : Nat) (x y z : Value)
    (hp : tmps.getD p undef = .pointer (some ⟨g, 0, none⟩)) (hB : Blk w g 29 #[x, y, z]) :
    (results fn tmps).run Tryd.prog w = .ok (.tuple #[.agg #[x, y, z], tmps.getD u undef]) w := by
  rw [results_cell_tmp h, hp]
  have := run_loadVar_row (P := Tryd.prog) w g 29 29 #[x, y, z] (0, 0) _ hB Tryd.underlying29 rfl fault_info
  simp [asAddr, this]
theorem keepR' {w W W' : World} {b i j : Nat} {x y : Value} (hbm : b < w.heap.size) (hb : Below W.heap.size W W') (h : Below w.heap.size w W ∧ W.cell? ⟨b, i, none⟩ = some x ∧ W.cell? ⟨b, j, none⟩ = some y) :
    Below w.heap.size w W' ∧ W'.cell? ⟨b, i, none⟩ = some x ∧ W'.cell? ⟨b, j, none⟩ = some y :=
  have hs := h.1.size
  ⟨btr h.1 hb hs, (hb.cell (show b < _ by omega)).trans h.2.1, (hb.cell (show b < _ by omega)).trans h.2.2⟩
theorem keepS {w W : World} {b i j : Nat} {x y u0 u1 u2 : Value} (hbm : b < w.heap.size) (h : Below w.heap.size w W ∧ W.cell? ⟨b, i, none⟩ = some x ∧ W.cell? ⟨b, j, none⟩ = some y) :
    Below w.heap.size w (((W.setCell ⟨w.heap.size, 0, none⟩ u0).setCell ⟨w.heap.size, 1, none⟩ u1).setCell ⟨w.heap.size, 2, none⟩ u2) ∧ (((W.setCell ⟨w.heap.size, 0, none⟩ u0).setCell ⟨w.heap.size, 1, none⟩ u1).setCell ⟨w.heap.size, 2, none⟩ u2).cell? ⟨b, i, none⟩ = some x ∧ (((W.setCell ⟨w.heap.size, 0, none⟩ u0).setCell ⟨w.heap.size, 1, none⟩ u1).setCell ⟨w.heap.size, 2, none⟩ u2).cell? ⟨b, j, none⟩ = some y := by
  have hc : ∀ (W : World) (k m : Nat) (v : Value), (W.setCell ⟨w.heap.size, m, none⟩ v).cell? ⟨b, k, none⟩ = W.cell? ⟨b, k, none⟩ := fun W k m v => World.cell?_setCell_other W _ _ v (fun e => by injection e; omega)
  refine ⟨((h.1.setCell (Nat.le_refl _) _).setCell (Nat.le_refl _) _).setCell (Nat.le_refl _) _, ?_, ?_⟩
  · rw [hc, hc, hc]; exact h.2.1
  · rw [hc, hc, hc]; exact h.2.2
theorem flt_no {x y : Int} {A : Option Addr} {n c : Nat} : ∀ (i : Nat) (v : Int), (#[Value.int .i64 x, Value.int .i64 y, Value.slice A n c] : Array Value)[i]? ≠ some (Value.int .u8 v) := by
  intro i v
  rcases i with _ | _ | _ | i
  · simp
  · simp
  · simp
  · simp
def RdPost (w : World) (l : List UInt8) (e : Ending) (w' : World) : Prop := ∃ (A : Option Addr) (n c : Nat), e = .returned (.tuple #[.agg #[.int .i64 (if l.length < 2 then 0 else lb l 0 : Nat), .int .i64 (if l.length < 2 then 0 else lb l 1 : Nat), .slice A n c], .int .i64 (if l.length < 2 then 3 else 0 : Nat)]) ∧ BS w' w'.heap.size A n (l.drop 2) ∧ Below w.heap.size w w'
set_option maxHeartbeats 1000000 in
set_option maxRecDepth 100000 in
theorem noticeRead (A : Option Addr) (n c : Nat) (l : List UInt8) (w : World) (h : BS w w.heap.size A n l) (hnc : n ≤ c) (hn : n ≤ 100000) :
    Calls Tryd.prog 75 #[.slice A n c] w (RdPost w l) := by
  have HLN := Lib.hid h.len
  by_cases h2 : n < 2
  · have h2i : (n : Int) < 2 := by omega
    go_enter Tryd.func75, Tryd.ntmps75
    go_wp2_with fail
    refine bodyPost_ret (fault_ret rfl _ _ w.heap.size _ _ _ rfl (Blk.new w _ _)) rfl ?_
    have hl : l.length < 2 := by rw [← HLN.out]; exact h2
    refine ⟨none, 0, 0, by simp only [if_pos hl]; rfl, ?_, (Below.refl _ _).alloc (Nat.le_refl _) _⟩
    rw [List.drop_of_length_le (by omega)]
    exact BS.none_
  · have h2i : 2 ≤ (n : Int) := by omega
    obtain ⟨b, off, rfl, hbw, hc0⟩ := h.form (k := 0) (by omega)
    have hc0 : w.cell? ⟨b, off, none⟩ = some (.int .u8 (lb l 0 : Int)) := hc0
    obtain ⟨b', off', e, _, hc1⟩ := h.form (k := 1) (by omega)
    injection e with e
    injection e with e1 e2 _
    subst e1 e2
    have hv0 := lb_lt l 0
    have hv1 := lb_lt l 1
    obtain ⟨v0, hv⟩ : ∃ v, lb l 0 = v := ⟨_, rfl⟩
    obtain ⟨v1, hv'⟩ : ∃ v, lb l 1 = v := ⟨_, rfl⟩
    rw [hv] at hc0 hv0
    rw [hv'] at hc1 hv1
    have HV0 := Lib.hid hv
    have HV1 := Lib.hid hv'
    clear hv hv'
    have hw0 : IntKind.i64.wrap (v0 : Int) = v0 := IntWalk.i64_in _ ⟨by omega, by omega⟩
    have hw1 : IntKind.i64.wrap (v1 : Int) = v1 := IntWalk.i64_in _ ⟨by omega, by omega⟩
    have h2c : 2 ≤ (c : Int) := by omega
    have hB0 := Blk.new w 29 #[.int .i64 0, .int .i64 0, .slice none 0 0]
    have b0 := (Below.refl w.heap.size w).alloc (Nat.le_refl _) (.cells #[.int .i64 0, .int .i64 0, .slice none 0 0] 29)
    have hsz : (w.alloc (.cells #[.int .i64 0, .int .i64 0, .slice none 0 0] 29)).heap.size = w.heap.size + 1 := by simp
    have hbm : b < w.heap.size + 1 := by omega
    have hD := Lib.hid (h.drop_ (k := 2) (by omega) hnc)
    by_cases hc2 : c = 2
    · subst hc2
      obtain rfl : n = 2 := by omega
      have hD' := hD.out
      rw [if_pos rfl] at hD'
      have HD := Lib.hid hD'
      clear hD' hD
      go_enter Tryd.func75, Tryd.ntmps75
      go_wp2_with fail
      go_region_held (fun w' => Below w.heap.size w w' ∧ w'.cell? ⟨b, off, none⟩ = some (.int .u8 (v0 : Int)) ∧ w'.cell? ⟨b, off + 1, none⟩ = some (.int .u8 (v1 : Int)))
        (first | (refine keepS hbw ?_; assumption) | (refine keepR' hbw b1 ?_; assumption) | ((repeat' apply And.intro) <;> first | (with_reducible exact Below.drew b0) | go_keep))
        (first
          | (go_at_call 98; refine (sliceClone _ _ _ (l.drop 2) _ (HD.out.call (And.left (by with_reducible assumption))) (by omega)).mono ?_; rintro _ w1 ⟨A2, n2, c2, rfl, o2, b1⟩; have hB1 := hB0.drew.below b1 (by simp); have e0 := hB1.cell 0; have e1 := hB1.cell 1; have e2 := hB1.cell 2; have f0 := hB1.frozen 0; have f1 := hB1.frozen 1; have f2 := hB1.frozen 2))
      all_goals
        go_wp2_with fail
        have hB2 := ((hB1.set_ 0 (.int .i64 (v0 : Int))).set_ 1 (.int .i64 (v1 : Int))).set_ 2 (.slice A2 n2 c2)
        refine bodyPost_ret (fault_ret rfl _ _ w.heap.size (.int .i64 (v0 : Int)) (.int .i64 (v1 : Int)) (.slice A2 n2 c2) rfl (by simpa using hB2)) rfl ?_
        have hl : ¬ l.length < 2 := by rw [← HLN.out]; exact h2
        have hg := only_setCell (only_setCell (only_setCell (World.grownBy.refl w1 (some w.heap.size)) (p := ⟨w.heap.size, 0, none⟩) (.inl rfl) (.int .i64 (v0 : Int))) (p := ⟨w.heap.size, 1, none⟩) (.inl rfl) (.int .i64 (v1 : Int))) (p := ⟨w.heap.size, 2, none⟩) (.inl rfl) (.slice A2 n2 c2)
        refine ⟨A2, n2, c2, by simp only [if_neg hl, HV0.out, HV1.out]; rfl, o2.grownAt hg (o2.apart hB1 flt_no), ?_⟩
        exact And.left (by with_reducible assumption)
    · have hD' := hD.out
      rw [if_neg hc2] at hD'
      have HD := Lib.hid hD'
      clear hD' hD
      go_enter Tryd.func75, Tryd.ntmps75
      go_wp2_with fail
      go_region_held (fun w' => Below w.heap.size w w' ∧ w'.cell? ⟨b, off, none⟩ = some (.int .u8 (v0 : Int)) ∧ w'.cell? ⟨b, off + 1, none⟩ = some (.int .u8 (v1 : Int)))
        (first | (refine keepS hbw ?_; assumption) | (refine keepR' hbw b1 ?_; assumption) | ((repeat' apply And.intro) <;> first | (with_reducible exact Below.drew b0) | go_keep))
        (first
          | (go_at_call 98; refine (sliceClone _ _ _ (l.drop 2) _ (HD.out.call (And.left (by with_reducible assumption))) (by omega)).mono ?_; rintro _ w1 ⟨A2, n2, c2, rfl, o2, b1⟩; have hB1 := hB0.drew.below b1 (by simp); have e0 := hB1.cell 0; have e1 := hB1.cell 1; have e2 := hB1.cell 2; have f0 := hB1.frozen 0; have f1 := hB1.frozen 1; have f2 := hB1.frozen 2))
      all_goals
        go_wp2_with fail
        have hB2 := ((hB1.set_ 0 (.int .i64 (v0 : Int))).set_ 1 (.int .i64 (v1 : Int))).set_ 2 (.slice A2 n2 c2)
        refine bodyPost_ret (fault_ret rfl _ _ w.heap.size (.int .i64 (v0 : Int)) (.int .i64 (v1 : Int)) (.slice A2 n2 c2) rfl (by simpa using hB2)) rfl ?_
        have hl : ¬ l.length < 2 := by rw [← HLN.out]; exact h2
        have hg := only_setCell (only_setCell (only_setCell (World.grownBy.refl w1 (some w.heap.size)) (p := ⟨w.heap.size, 0, none⟩) (.inl rfl) (.int .i64 (v0 : Int))) (p := ⟨w.heap.size, 1, none⟩) (.inl rfl) (.int .i64 (v1 : Int))) (p := ⟨w.heap.size, 2, none⟩) (.inl rfl) (.slice A2 n2 c2)
        refine ⟨A2, n2, c2, by simp only [if_neg hl, HV0.out, HV1.out]; rfl, o2.grownAt hg (o2.apart hB1 flt_no), ?_⟩
        exact And.left (by with_reducible assumption)
end Go.Proofs.YtdcldmblgbefnaaDoor
