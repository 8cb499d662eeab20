/- Walks of the library's slices.Insert: one value more at a place in a row of the call's own. Conditions: the value lies in a block of its own. -/
import Derived.Test.YtlpkngjeihoknaaDoorProg
import Derived.WalkKit
import Derived.WalkSpells
import Derived.WalkLawsBesides
import Derived.Outline
import Derived.Deep.QuietTactic
import Derived.BigQuiet
import Derived.Handy
import Derived.Lib.Hide
import Derived.Shelf.RegionOpenPlain
import Derived.Laws.NewBlocks
import Derived.Test.YtlpkngjeihoknaaDoorIns
import Derived.Test.YtlpkngjeihoknaaDoorNums
namespace Go.Proofs.YtlpkngjeihoknaaDoor
open Go.RowKit
set_option linter.unusedSimpArgs false
set_option linter.unusedVariables false
theorem ins_infoR : (Tryd.prog.info? 100).map (fun i => (i.zero, i.size, i.bytes)) = some (some (.agg #[.int .i64 0, .int .i64 0, .slice none 0 0]), 3, 40) := by kernel_rfl
set_option maxHeartbeats 4000000 in
set_option maxRecDepth 100000 in
theorem insertR (base : Nat) (A : Option Addr) (n c i vb : Nat) (T : TypeId) (xs vs : List Value) (w : World) (ho : w.ownsRow base 100 3 (.slice A n c) n xs) (hi : i ≤ n) (hv : Blk w vb T vs.toArray) (hvl : vs.length = 3) (hvb : Value.ownBlock (.slice A n c) ≠ some vb) (h1v : ∀ v ∈ vs, v.oneCell' = true) (h1x : ∀ v ∈ xs, v.oneCell' = true) (hbig : n ≤ 100000) (hbase : base ≤ w.heap.size) :
    Calls Tryd.prog 127 #[.slice A n c, .int .i64 i, .slice (some ⟨vb, 0, none⟩) 1 1] w (RetIns w base 100 3 A n c (xs.take (i * 3) ++ vs ++ xs.drop (i * 3))) := by
  have hxl := ho.1
  have hrd : Reads w w.heap.size 3 (some ⟨vb, 0, none⟩) 1 vs := ⟨by rw [hvl], fun _ => ⟨_, rfl, hv.lt, fun j u hu => by rw [addr_add, Nat.zero_add, hv.cell]; simpa using hu⟩⟩
  by_cases hin : i = n
  · subst hin
    have e0 : xs.take (i * 3) ++ vs ++ xs.drop (i * 3) = xs ++ vs := by
      rw [List.take_of_length_le (by omega), List.drop_eq_nil_of_le (by omega), List.append_nil]
    rw [e0]
    have HXL := Lib.hid hxl
    have HB := Lib.hid hbase
    have HV := Lib.hid hvb
    have hii : (i : Int) ≤ (i : Int) := Int.le_refl _
    have hcap := own_cap ho
    have hci : (i : Int) ≤ (c : Int) := by omega
    clear hxl hbase e0 hvb hi
    by_cases hci0 : c = i
    · subst hci0
      have W0 := Lib.hid (And.intro hii hcap)
      clear hci hii hcap
      go_enter Tryd.func127, Tryd.ntmps127
      go_wp2_with (at_builtin; refine wpl_appR rfl (.tmp 23) (.tmp 24) 52 rfl 100 (.agg #[.int .i64 0, .int .i64 0, .slice none 0 0]) 3 40 Tryd.underlying52 ins_infoR rfl (by omega) base A c c xs (by rfl) ho w.heap.size (some ⟨vb, 0, none⟩) 1 1 vs (by rfl) hrd h1v (by unfold maxLen; omega) (by omega) HB.out ?_; intro A2 c2 w2 o2 b2 g2 at2)
      go_ret
      exact ⟨A2, c2, rfl, o2, g2, at2⟩
    go_enter Tryd.func127, Tryd.ntmps127
    go_wp2_with (at_builtin; refine wpl_appR rfl (.tmp 23) (.tmp 24) 52 rfl 100 (.agg #[.int .i64 0, .int .i64 0, .slice none 0 0]) 3 40 Tryd.underlying52 ins_infoR rfl (by omega) base A i c xs (by rfl) ho w.heap.size (some ⟨vb, 0, none⟩) 1 1 vs (by rfl) hrd h1v (by unfold maxLen; omega) (by omega) HB.out ?_; intro A2 c2 w2 o2 b2 g2 at2)
    go_ret
    exact ⟨A2, c2, rfl, o2, g2, at2⟩
  obtain ⟨g, cur, rfl, hbg, hg, hnc, hcm, hcs, hct⟩ : ∃ g cur, A = some ⟨g, 0, none⟩ ∧ base ≤ g ∧ w.heap[g]? = some (.cells cur 100 (0, 0)) ∧ n ≤ c ∧ c ≤ maxLen ∧ cur.size = c * 3 ∧ cur.toList.take (n * 3) = xs := by
    rcases ho.2 with ⟨h1, h2⟩ | ⟨g, cap, cur, h1, h2, h3, h4, h5, h6, h7⟩
    · omega
    · injection h1 with e1 e2 e3
      subst e1 e3
      exact ⟨g, cur, rfl, h2, h3, h4, h5, h6, h7⟩
  have hlt : i < n := by omega
  have hne : g ≠ vb := fun e => hvb (by rw [e]; rfl)
  have hgw : g < w.heap.size := (Array.getElem?_eq_some_iff.1 hg).1
  have hvw := hv.lt
  have hsz : (Tryd.prog.info? 100).map (·.size) = some 3 := by kernel_rfl
  have hu := Tryd.underlying52
  have hc63 : c ≤ 9223372036854775807 := by unfold maxLen at hcm; omega
  have hcl : cur.toList.length = c * 3 := by rw [Array.length_toList, hcs]
  have z2 : ((i : Int) == (n : Int)) = false := by simp; omega
  have hw1 : IntKind.i64.wrap ((n : Int) + 1) = (n : Int) + 1 := IntWalk.i64_in _ ⟨by omega, by omega⟩
  have hw2 : IntKind.i64.wrap ((i : Int) + 1) = (i : Int) + 1 := IntWalk.i64_in _ ⟨by omega, by omega⟩
  have htn : ((i : Int) + 1).toNat = i + 1 := by omega
  have htm : ((n : Int) + 1).toNat = n + 1 := by omega
  have hin2 : (i : Int) ≤ (n : Int) := by omega
  have hnc2 : (n : Int) ≤ (c : Int) := by omega
  have hcellx : ∀ j v, (xs.drop (i * 3))[j]? = some v → w.cell? ⟨g, i * 3 + j, none⟩ = some v := fun j v hj => by
    rw [List.getElem?_drop] at hj
    have := ho.cellAt (i * 3 + j) (by rw [← hxl]; exact (List.getElem?_eq_some_iff.1 hj).1)
    rw [this]; exact hj
  have hdl : (xs.drop (i * 3)).length = (n - i) * 3 := by rw [List.length_drop, hxl]; omega
  have h1d : ∀ v ∈ xs.drop (i * 3), v.oneCell' = true := fun v hv => h1x v (List.mem_of_mem_drop hv)
  by_cases hroom : n + 1 ≤ c
  · have z3 : decide ((c : Int) < (n : Int) + 1) = false := decide_eq_false (by omega)
    have z3' : decide (c < n + 1) = false := decide_eq_false (by omega)
    obtain ⟨l1, l2, l3⟩ := shiftL (cur := cur.toList) (vs := vs) (a := i * 3) (k := 3) hct hxl (by omega) hvl (by rw [hcl]; omega)
    obtain ⟨r1, hr1⟩ : ∃ r1, cur.toList.take (i * 3 + 3) ++ xs.drop (i * 3) ++ cur.toList.drop (i * 3 + 3 + (xs.drop (i * 3)).length) = r1 := ⟨_, rfl⟩
    rw [hr1] at l1 l2 l3
    have hov : ∀ lb cb, (callFunc 135 #[.slice (some ⟨vb, 0, none⟩) 1 1, .slice (some ⟨g, (i + 1) * 3, none⟩) lb cb]).run Tryd.prog w = .ok (.value (.bool false)) w := fun lb cb => by
      rw [run_callFunc_extern Tryd.func135 (by kernel_rfl) (by kernel_rfl) (by kernel_rfl) (e := Extern.SlicesOverlaps.overlaps #[52, 52] #[4]) (by kernel_rfl),
        Lib.run_overlaps_apart w 52 4 100 hu 3 (fun w => by kernel_rfl) ⟨vb, 0, none⟩ ⟨g, (i + 1) * 3, none⟩ 1 1 lb cb (fun e => hne e.symm) _ _ _ _ (blk_shape hv) (blk_shape hg) (by rw [hcs]; omega) (blk_clear hv _) (blk_clear hv _)]
      rfl
    have hcp1 : ∀ ty dc sc, (Builtin.copy_ #[52, 52] ty #[.slice (some ⟨g, (i + 1) * 3, none⟩) (n - i) dc, .slice (some ⟨g, i * 3, none⟩) (n + 1 - i) sc]).run Tryd.prog w.drew = .ok (goInt ((n - i : Nat) : Int)) (w.drew.setRow g r1.toArray) := fun ty dc sc => by
      have := run_copy_rowK (P := Tryd.prog) w.drew 52 52 ty 100 3 g ((i + 1) * 3) (n - i) dc ⟨g, i * 3, none⟩ (n + 1 - i) sc cur 100 (xs.drop (i * 3)) hu hsz hg (n - i) (by simp only [Nat.min_def]; split <;> omega) hdl
        (fun j v hj => by rw [addr_add, show (i * 3) + j = i * 3 + j by omega]; exact hcellx j v hj) (by rw [hdl, hcs]; omega) h1d
      rw [this]
      first | rw [show ((i + 1) * 3) = i * 3 + 3 by omega, hr1] | rw [show i + 1 = i * 3 + 3 by omega, hr1]
    obtain ⟨W1, hW1⟩ : ∃ W1, w.drew.setRow g r1.toArray = W1 := ⟨_, rfl⟩
    have hg1 : W1.heap[g]? = some (.cells r1.toArray 100 (0, 0)) := by rw [← hW1]; exact setRow_heap w.drew g cur r1.toArray _ _ hg
    have hv1 : Blk W1 vb T vs.toArray := by rw [← hW1]; exact (setRow_other w.drew g vb r1.toArray (fun e => hne e.symm)).trans hv
    have hcp2 : ∀ ty dc, (Builtin.copy_ #[52, 52] ty #[.slice (some ⟨g, i * 3, none⟩) (n + 1 - i) dc, .slice (some ⟨vb, 0, none⟩) 1 1]).run Tryd.prog W1 = .ok (goInt 1) (W1.setRow g (r1.take (i * 3) ++ vs ++ r1.drop (i * 3 + vs.length)).toArray) := fun ty dc => by
      have := run_copy_rowK (P := Tryd.prog) W1 52 52 ty 100 3 g (i * 3) (n + 1 - i) dc ⟨vb, 0, none⟩ 1 1 r1.toArray 100 vs hu hsz hg1 1 (by simp only [Nat.min_def]; split <;> omega) (by rw [hvl])
        (fun j v hj => by rw [addr_add, Nat.zero_add, hv1.cell]; simpa using hj) (by rw [hvl, List.size_toArray, l1, hcl]; omega) h1v
      rw [this]
      simp
    have hown2 : (W1.setRow g (r1.take (i * 3) ++ vs ++ r1.drop (i * 3 + vs.length)).toArray).ownsRow base 100 3 (.slice (some ⟨g, 0, none⟩) (n + 1) c) (n + 1) (xs.take (i * 3) ++ vs ++ xs.drop (i * 3)) := by
      refine ⟨by simp only [List.length_append, List.length_take, hdl, hxl, hvl]; omega, .inr ⟨g, c, (r1.take (i * 3) ++ vs ++ r1.drop (i * 3 + vs.length)).toArray, rfl, hbg, setRow_heap W1 g _ _ _ _ hg1, hroom, hcm, by rw [List.size_toArray, l2, hcl], ?_⟩⟩
      rw [show (n + 1) * 3 = n * 3 + 3 by omega]
      exact l3
    have hgr : w.grownBy (W1.setRow g (r1.take (i * 3) ++ vs ++ r1.drop (i * 3 + vs.length)).toArray) (some g) := by
      have g1 : w.drew.grownBy W1 (some g) := by rw [← hW1]; exact setRow_grown rfl
      have g2 : W1.grownBy (W1.setRow g (r1.take (i * 3) ++ vs ++ r1.drop (i * 3 + vs.length)).toArray) (some g) := setRow_grown rfl
      exact ⟨g2.os.trans g1.os, g2.tape.trans g1.tape, g2.output.trans g1.output, Nat.le_trans g1.size g2.size, fun k hk hkg => (g2.block k (Nat.lt_of_lt_of_le hk g1.size) hkg).trans (g1.block k hk hkg)⟩
    obtain ⟨W2, hW2⟩ : ∃ W2, W1.setRow g (r1.take (i * 3) ++ vs ++ r1.drop (i * 3 + vs.length)).toArray = W2 := ⟨_, rfl⟩
    rw [hW2] at hcp2 hown2 hgr
    rw [hW1] at hcp1
    have HOW := Lib.hid hown2
    have HGR := Lib.hid hgr
    have hb2 : ¬ (c = i + 1) := by omega
    have hb3 : (i : Int) ≤ (n : Int) + 1 := by omega
    have hb4 : ¬ (c = i) := by omega
    have hb5 : (n : Int) + 1 ≤ (c : Int) := by omega
    have hb6 : (i : Int) + 1 ≤ (n : Int) + 1 := by omega
    have hbk : (n : Int) + 1 ≤ 9223372036854775807 := by omega
    have hb1 : (0 : Int) ≤ (i : Int) + 1 := by omega
    have mixed : Tryd.prog.follows Departure.mixedOrders = true := by kernel_rfl
    clear hW1 hW2 hr1 l1 l2 l3 hown2 hgr ho hct hcs hcl hxl hcellx hdl
    go_enter Tryd.func127, Tryd.ntmps127
    go_wp2_with (simp only [hov])
    go_region_law_o (refine step_copyK rfl _ _ 52 52 rfl _ _ (by simp [Act.eval, Act.put]) (by simp [Act.eval, Act.put]) (hcp1 _ _ _) ?_)
    go_wp2_with (at_builtin; refine wpl_copyK _ rfl _ _ 52 52 rfl _ _ rfl rfl (hcp2 _ _) ?_)
    go_ret
    exact ⟨_, c, rfl, HOW.out, HGR.out, .inl rfl⟩
  · obtain ⟨i0, hi0, hz0, hzs, hzb⟩ : ∃ i0, Tryd.prog.info? 100 = some i0 ∧ i0.zero = some (.agg #[.int .i64 0, .int .i64 0, .slice none 0 0]) ∧ i0.size = 3 ∧ i0.bytes = 40 := by
      have := ins_infoR
      simp only [Option.map_eq_some_iff, Prod.mk.injEq] at this
      exact this
    have hkk : (n : Int) + 1 - (i : Int) = ((n + 1 - i : Nat) : Int) := by omega
    have hik : i + (n + 1 - i) = n + 1 := by omega
    have hold : (Builtin.firstCells i0.size i (.slice (some ⟨g, 0, none⟩) i c)).run Tryd.prog w.drew = .ok (xs.take (i * 3)).toArray w.drew := by
      rw [hzs]
      exact run_firstCells_some w.drew 3 i ⟨g, 0, none⟩ i c (xs.take (i * 3)) (by rw [List.length_take]; omega) (fun j v hj => by
        rw [addr_add, Nat.zero_add]
        rw [List.getElem?_take] at hj
        split at hj
        · have := ho.cellAt j (by rw [← hxl]; exact (List.getElem?_eq_some_iff.1 hj).1)
          exact this.trans hj
        · cases hj)
    obtain ⟨G, hG⟩ : ∃ G, grownCap w (n + 1) c 100 = G := ⟨_, rfl⟩
    have hGn : n + 1 ≤ G := by rw [← hG]; exact grownCap_ge w _ _ _
    have hGm : G ≤ maxLen := by rw [← hG]; exact grownCap_le_maxLen w (n + 1) c 100 (by unfold maxLen; omega)
    obtain ⟨R, hR⟩ : ∃ R : Array Value, (xs.take (i * 3)).toArray ++ Builtin.zeroCells (Value.cells (.agg #[.int .i64 0, .int .i64 0, .slice none 0 0])) (n + 1 - i) ++ Builtin.zeroCells (Value.cells (.agg #[.int .i64 0, .int .i64 0, .slice none 0 0])) (G - (n + 1)) = R := ⟨_, rfl⟩
    have hRs : R.toList.length = G * 3 := by
      rw [← hR, Array.length_toList, Array.size_append, Array.size_append, zero_len _ 3 _ rfl, zero_len _ 3 _ rfl, List.size_toArray, List.length_take, hxl]
      omega
    have hRt : R.toList.take (i * 3) = xs.take (i * 3) := by
      rw [← hR]
      simp only [Array.toList_append, List.append_assoc]
      rw [List.take_left' (by rw [List.length_take, hxl]; omega)]
    have hrz : ∀ ty, (Builtin.append_ #[52, 3] ty #[.slice (some ⟨g, 0, none⟩) i c, .int .i64 ((n : Int) + 1 - (i : Int))]).run Tryd.prog w =
        .ok (.slice (some ⟨w.heap.size, 0, none⟩) (n + 1) G) (w.drew.alloc (.cells R 100)) := fun ty => by
      have h := Lib.run_append_grow_zeros (P := Tryd.prog) w 52 3 ty 100 i0 _ .i64 .i64 hu Tryd.underlying3 hi0 hz0 (some ⟨g, 0, none⟩) i c (xs.take (i * 3)) hold (n + 1 - i) (by omega) (by omega) (by omega) (by omega) (by rw [hzb]; omega) (by rw [hzb, hik]; exact growslice_fits (by omega) (by omega))
      rw [hik, hG, hR] at h
      rw [hkk]
      exact h
    obtain ⟨N, hN⟩ : ∃ N, w.heap.size = N := ⟨_, rfl⟩
    obtain ⟨W1, hW1⟩ : ∃ W1, w.drew.alloc (.cells R 100) = W1 := ⟨_, rfl⟩
    have hg1 : W1.heap[N]? = some (.cells R 100 (0, 0)) := by rw [← hW1, ← hN]; exact Blk.new w.drew 100 R
    have b1 : Below w.heap.size w W1 := by rw [← hW1]; exact (Below.refl _ _).drew.alloc (Nat.le_refl _) _
    have hv1 : Blk W1 vb T vs.toArray := hv.below b1 hvw
    have ho1 : W1.ownsRow base 100 3 (.slice (some ⟨g, 0, none⟩) n c) n xs := own_below ho b1
    obtain ⟨l1, l2, l3⟩ := growL (R := R.toList) (vs := vs) (a := i * 3) (k := 3) hRt hxl (by omega) hvl (by rw [hRs]; omega)
    obtain ⟨r1, hr1⟩ : ∃ r1, R.toList.take (i * 3) ++ vs ++ R.toList.drop (i * 3 + vs.length) = r1 := ⟨_, rfl⟩
    rw [hr1] at l1 l2 l3
    rw [hN, hW1] at hrz
    have hcpA : ∀ ty dc, (Builtin.copy_ #[52, 52] ty #[.slice (some ⟨N, i * 3, none⟩) (n + 1 - i) dc, .slice (some ⟨vb, 0, none⟩) 1 1]).run Tryd.prog W1 = .ok (goInt 1) (W1.setRow N r1.toArray) := fun ty dc => by
      have := run_copy_rowK (P := Tryd.prog) W1 52 52 ty 100 3 N (i * 3) (n + 1 - i) dc ⟨vb, 0, none⟩ 1 1 R 100 vs hu hsz hg1 1 (by simp only [Nat.min_def]; split <;> omega) (by rw [hvl])
        (fun j v hj => by rw [addr_add, Nat.zero_add, hv1.cell]; simpa using hj) (by rw [hvl, ← Array.length_toList, hRs]; omega) h1v
      rw [this, show (i * 3) = i * 3 by omega, hr1]
      rfl
    obtain ⟨W2, hW2⟩ : ∃ W2, W1.setRow N r1.toArray = W2 := ⟨_, rfl⟩
    rw [hW2] at hcpA
    have hg2 : W2.heap[N]? = some (.cells r1.toArray 100 (0, 0)) := by rw [← hW2]; exact setRow_heap W1 N R r1.toArray _ _ hg1
    have hgN : g ≠ N := by omega
    have ho2 : ∀ j, j < n * 3 → W2.cell? ⟨g, j, none⟩ = xs[j]? := fun j hj => by
      rw [← ho1.cellAt j hj, ← hW2]
      exact World.cell?_of_block (setRow_other W1 N g r1.toArray hgN)
    have hcpB : ∀ ty dc sc, (Builtin.copy_ #[52, 52] ty #[.slice (some ⟨N, (i + 1) * 3, none⟩) (n - i) dc, .slice (some ⟨g, i * 3, none⟩) (n - i) sc]).run Tryd.prog W2.drew = .ok (goInt ((n - i : Nat) : Int)) (W2.drew.setRow N (r1.take (i * 3 + 3) ++ xs.drop (i * 3) ++ r1.drop (i * 3 + 3 + (xs.drop (i * 3)).length)).toArray) := fun ty dc sc => by
      have := run_copy_rowK (P := Tryd.prog) W2.drew 52 52 ty 100 3 N ((i + 1) * 3) (n - i) dc ⟨g, i * 3, none⟩ (n - i) sc r1.toArray 100 (xs.drop (i * 3)) hu hsz hg2 (n - i) (by simp only [Nat.min_def]; split <;> omega) hdl
        (fun j v hj => by
          rw [addr_add, show (i * 3) + j = i * 3 + j by omega]
          rw [List.getElem?_drop] at hj
          exact (ho2 (i * 3 + j) (by rw [← hxl]; exact (List.getElem?_eq_some_iff.1 hj).1)).trans hj) (by rw [hdl, List.size_toArray, l1, hRs]; omega) h1d
      rw [this, show ((i + 1) * 3) = i * 3 + 3 by omega]
    obtain ⟨W3, hW3⟩ : ∃ W3, W2.drew.setRow N (r1.take (i * 3 + 3) ++ xs.drop (i * 3) ++ r1.drop (i * 3 + 3 + (xs.drop (i * 3)).length)).toArray = W3 := ⟨_, rfl⟩
    rw [hW3] at hcpB
    have HOW := Lib.hid (show W3.ownsRow base 100 3 (.slice (some ⟨N, 0, none⟩) (n + 1) G) (n + 1) (xs.take (i * 3) ++ vs ++ xs.drop (i * 3)) from by
      refine ⟨by simp only [List.length_append, List.length_take, hdl, hxl, hvl]; omega, .inr ⟨N, G, (r1.take (i * 3 + 3) ++ xs.drop (i * 3) ++ r1.drop (i * 3 + 3 + (xs.drop (i * 3)).length)).toArray, rfl, by omega, by rw [← hW3]; exact setRow_heap W2.drew N _ _ _ _ hg2, hGn, hGm, by rw [List.size_toArray, l2, hRs], ?_⟩⟩
      rw [show (n + 1) * 3 = n * 3 + 3 by omega]
      exact l3)
    have HGR := Lib.hid (show w.grownBy W3 (some g) from by
      refine ⟨?_, ?_, ?_, ?_, fun k hk hkg => ?_⟩
      · rw [← hW3, ← hW2]; exact b1.os
      · rw [← hW3, ← hW2]; exact b1.tape
      · rw [← hW3, ← hW2]; exact b1.output
      · rw [← hW3, ← hW2]; have := b1.size; simpa using this
      · have hkN : k ≠ N := by omega
        rw [← hW3, setRow_other _ _ _ _ hkN, ← hW2]
        exact (setRow_other _ _ _ _ hkN).trans (b1.block k hk))
    have z3 : decide ((c : Int) < (n : Int) + 1) = true := decide_eq_true (by omega)
    have z3' : decide (c < n + 1) = true := decide_eq_true (by omega)
    have HNN := Lib.hid hN
    have hGi : ¬ (G = i) := by omega
    have hGim : ¬ (G = i + 1) := by omega
    have hci : ¬ (c = i) := by omega
    have hb1 : (0 : Int) ≤ (i : Int) + 1 := by omega
    have hb3 : (i : Int) ≤ (n : Int) + 1 := by omega
    have hb6 : (i : Int) + 1 ≤ (n : Int) + 1 := by omega
    have hic : (i : Int) ≤ (c : Int) := by omega
    have hw4 : IntKind.i64.wrap ((n : Int) + 1 - (i : Int)) = (n : Int) + 1 - (i : Int) := IntWalk.i64_in _ ⟨by omega, by omega⟩
    have mixed : Tryd.prog.follows Departure.mixedOrders = true := by kernel_rfl
    clear hN hW1 hW2 hW3 hr1 l1 l2 l3 hR hRs hRt hold hG hkk hik ho ho1 ho2 hct hcs hcl hxl hcellx hdl hGm
    go_enter Tryd.func127, Tryd.ntmps127
    go_wp2_with (first
      | (at_builtin; refine Lib.wpList_append_run _ rfl _ _ _ _ rfl _ _ rfl rfl _ _ (hrz _) ?_)
      | (at_builtin; refine wpl_copyK _ rfl _ _ 52 52 rfl _ _ rfl rfl (hcpA _ _) ?_))
    go_region_law_o (refine step_copyK rfl _ _ 52 52 rfl _ _ (by simp [Act.eval, Act.put]) (by simp [Act.eval, Act.put]) (hcpB _ _ _) ?_)
    go_wp2_with fail
    go_ret
    exact ⟨_, G, rfl, HOW.out, HGR.out, .inr (by rw [HNN.out]; rfl)⟩
end Go.Proofs.YtlpkngjeihoknaaDoor
