/- Walks of layer 12 (filter): Drop, the document's, and the law FilterLists. Conditions: the table of digits (DigTab) for the law. -/
import Derived.Test.YtnhkpnohadbcdaaDoorProg
import Derived.WalkKit
import Derived.WalkSpells
import Derived.WalkLawsBesides
import Derived.Outline
import Derived.Deep.QuietTactic
import Derived.BigQuiet
import Derived.Handy
import Derived.Lib.Hide
import Derived.Test.YtnhkpnohadbcdaaDoorFilLawA
import Derived.Test.YtnhkpnohadbcdaaDoorFilK
namespace Go.Proofs.YtnhkpnohadbcdaaDoor
open Go.RowKit
set_option linter.unusedSimpArgs false
theorem dropN_wf {l : List Int} {x : Int} (h : ∀ y ∈ l, (Lit.int .u32 y).wf = true) : ∀ y ∈ dropN l x, (Lit.int .u32 y).wf = true := fun y hy => h y (List.mem_filter.1 hy).1
set_option maxHeartbeats 1000000 in
set_option maxRecDepth 100000 in
theorem filterDrop (A : Option Addr) (n c : Nat) (l : List Int) (x : Int) (w : World) (h : NS .u32 w w.heap.size A n l) (hbd : n ≤ 100000) :
    Calls Tryd.prog 81 #[.slice A n c, .int .u32 x] w (RetU w (dropN l x)) := by
  have HN := Lib.hid h.1
  obtain ⟨W, hW⟩ : ∃ W, w.alloc (.cells #[.int .u32 x] 22) = W := ⟨_, rfl⟩
  have b0 := (Below.refl w.heap.size w).alloc (Nat.le_refl _) (.cells #[.int .u32 x] 22)
  have hX := Blk.new w 22 #[.int .u32 x]
  rw [hW] at b0 hX
  have hxl := hX.lt
  go_enter Tryd.func81, Tryd.ntmps81
  go_wp2_with fail
  try rw [hW]
  clear hW
  refine (cloneU A n c l W ((h.below b0).more b0.size) hbd).mono ?_
  rintro _ w1 ⟨A1, n1, c1, rfl, o1, b1⟩
  have b01 := btr b0 b1 b0.size
  have hX1 := hX.below b1 hxl
  have hn1 : n1 ≤ 100000 := by have := o1.1; have := HN.out; omega
  go_wp2_with fail
  refine (deleteU A1 n1 c1 l x w.heap.size W.heap.size w1 o1 b1.size hxl hn1 (hX1.cell 0)).mono ?_
  rintro _ w2 ⟨A2, n2, c2, rfl, o2, b2⟩
  have b02 := b01.trans (b2.mono (Nat.le_of_lt hxl))
  go_wp2_with fail
  go_ret
  exact ⟨A2, n2, c2, rfl, o2.ns, b02⟩
theorem dropN_snoc {l : List Int} {x y : Int} {j : Nat} (hj : l[j]? = some y) : dropN (l.take (j + 1)) x = dropN (l.take j) x ++ (if keepN x y = true then [y] else []) := by
  unfold dropN
  cases e : keepN x y
  · rw [take_drop_ hj e]; simp
  · rw [take_keep hj e]; simp
set_option maxHeartbeats 1000000 in
set_option maxRecDepth 100000 in
theorem ref12Drop (A : Option Addr) (n c : Nat) (l : List Int) (x : Int) (w : World) (h : NS .u32 w w.heap.size A n l) (hbd : n ≤ 100000) :
    Calls Tryd.prog 82 #[.slice A n c, .int .u32 x] w (RetU w (dropN l x)) := by
  have HN := Lib.hid h.1
  have HW := Lib.hid h.2.2
  go_enter Tryd.func82, Tryd.ntmps82
  go_wp2_with fail
  go_loopw [5, 6] (fun v i wr => ∃ (j : Nat) (A1 : Option Addr) (n1 c1 : Nat), j ≤ n ∧ i = .int .i64 j ∧ v = .slice A1 n1 c1 ∧ OU wr w.heap.size A1 n1 c1 (dropN (l.take j) x) ∧ Below w.heap.size w wr) (fun _ i _ => n - (intOf i).toNat)
  case atStart => exact ⟨0, none, 0, 0, by omega, rfl, rfl, OU.nil_, Below.refl _ _⟩
  case round =>
    obtain ⟨j, A1, n1, c1, hj, rfl, rfl, o1, b1⟩ := hrel
    by_cases hlt : j < n
    · obtain ⟨b, off, rfl, hbw, hcw⟩ := (h.below b1).form hlt
      have hd : decide ((j : Int) < n) = true := decide_eq_true (by omega)
      obtain ⟨y, hy⟩ : ∃ y, l[j]? = some y := ⟨_, List.getElem?_eq_getElem (by rw [← HN.out]; exact hlt)⟩
      rw [hy, Option.getD_some] at hcw
      have HS := Lib.hid (dropN_snoc (x := x) hy)
      have hyw : (Lit.int .u32 y).wf = true := HW.out y (List.mem_of_getElem? hy)
      have HL := Lib.hid (show (dropN (l.take j) x).length ≤ 100000 from Nat.le_trans (List.length_filter_le _ _) (Nat.le_trans (List.length_take_le _ _) (by omega)))
      obtain ⟨L, hL⟩ : ∃ L, dropN (l.take j) x = L := ⟨_, rfl⟩
      rw [hL] at o1 HS HL
      clear hy hL
      by_cases e : y = x
      · have HT := Lib.hid (show dropN (l.take (j + 1)) x = L by rw [HS.out, show keepN x y = false by simp [keepN, e]]; simp)
        have ht : (y != x) = false := by simpa using e
        clear e
        go_wp2_with fail
        go_roundw
        case rel => exact ⟨j + 1, A1, n1, c1, by omega, by go_num, rfl, by rw [HT.out]; exact o1, b1⟩
        case measure => simp [intOf]; omega
      · have HT := Lib.hid (show dropN (l.take (j + 1)) x = L ++ [y] by rw [HS.out, show keepN x y = true by simp [keepN, e]]; simp)
        have ht : (y != x) = true := by simpa using e
        clear e
        go_wp2_with (at_builtin; refine wpl_appU rfl (.tmp 19) (.tmp 24) rfl w.heap.size A1 n1 c1 L (by rfl) (o1.alloc _) (wr.heap.size + 1) (some ⟨wr.heap.size, 0, none⟩) 1 1 [y] (by rfl) (NS.one wr hyw rfl) (by have := HL.out; simp; omega) (by have := b1.size; simp; omega) ?_; intro A2 n2 c2 w2 o2 b2 _)
        go_roundw
        case rel => exact ⟨j + 1, A2, n2, c2, by omega, by go_num, rfl, by rw [HT.out]; exact o2, (b1.alloc b1.size _).trans b2⟩
        case measure => simp [intOf]; omega
    · have hj' : j = n := by omega
      have hd : decide ((j : Int) < n) = false := decide_eq_false (by omega)
      have HT := Lib.hid (show dropN (l.take j) x = dropN l x by rw [List.take_of_length_le (by rw [← HN.out]; omega)])
      have o1' := o1.ns
      rw [HT.out] at o1'
      clear hj' o1
      go_wp2_with fail
      go_ret
      exact ⟨A1, n1, c1, rfl, o1', b1⟩
set_option maxHeartbeats 2000000 in
set_option maxRecDepth 100000 in
theorem lawFilterLists (w : World) (A : Option Addr) (n c : Nat) (l : List Int) (h : NS .u32 w w.heap.size A n l) (_ : n ≤ c) (_ : c ≤ maxLen) (A' : Option Addr) (n' c' : Nat) (l' : List Int) (h' : NS .u32 w w.heap.size A' n' l') (_ : n' ≤ c') (_ : c' ≤ maxLen) (x : Int) (hx : (Lit.int .u32 x).wf = true) (ht : DigTab w) :
    Calls Tryd.prog 17 #[.slice A n c, .slice A' n' c', .int .u32 x] w fun en w' => en = .returned (.bool true) ∧ Below w.heap.size w w' := by
  by_cases hl : 80 < n
  · have e1 : decide (80 < (n : Int)) = true := decide_eq_true (by omega)
    go_enter Tryd.func17, Tryd.ntmps17
    go_wp2_with fail
    refine (awake12 _ ht).mono ?_
    rintro _ w1 ⟨rfl, b1⟩
    have b01 := b1
    go_wp2_with fail
    go_ret
    exact ⟨rfl, b01⟩
  have e1 : decide (80 < (n : Int)) = false := decide_eq_false (by omega)
  by_cases hl2 : 80 < n'
  · have e2 : decide (80 < (n' : Int)) = true := decide_eq_true (by omega)
    go_enter Tryd.func17, Tryd.ntmps17
    go_wp2_with fail
    refine (awake12 _ ht).mono ?_
    rintro _ w1 ⟨rfl, b1⟩
    have b01 := b1
    go_wp2_with fail
    go_ret
    exact ⟨rfl, b01⟩
  have e2 : decide (80 < (n' : Int)) = false := decide_eq_false (by omega)
  have hln := h.1
  have hal : (addN l x).length ≤ 81 := by
    unfold addN
    split
    · omega
    · rw [List.length_append]; simp; omega
  have hdl : (dropN l x).length ≤ 80 := Nat.le_trans (List.length_filter_le _ _) (by omega)
  obtain ⟨L1, hL1⟩ : ∃ L, addN l x = L := ⟨_, rfl⟩
  obtain ⟨L2, hL2⟩ : ∃ L, dropN l x = L := ⟨_, rfl⟩
  obtain ⟨r, hr⟩ : ∃ r, allN l l' = r := ⟨_, rfl⟩
  have hr2 := allN_self l
  have K1 := Lib.hid (fun v (hv : NS .u32 v v.heap.size A n l) => filterAdd A n c l x hx v hv (by omega))
  have K2 := Lib.hid (fun v (hv : NS .u32 v v.heap.size A n l) => ref12Add A n c l x hx v hv (by omega))
  have K3 := Lib.hid (fun v (hv : NS .u32 v v.heap.size A n l) => filterDrop A n c l x v hv (by omega))
  have K4 := Lib.hid (fun v (hv : NS .u32 v v.heap.size A n l) => ref12Drop A n c l x v hv (by omega))
  have K5 := Lib.hid (fun v (hv : NS .u32 v v.heap.size A n l) (hv' : NS .u32 v v.heap.size A' n' l') => filterAll A A' n n' c c' l l' v hv hv' (by omega) (by omega))
  have K6 := Lib.hid (fun v (hv : NS .u32 v v.heap.size A n l) (hv' : NS .u32 v v.heap.size A' n' l') => ref12All A A' n n' c c' l l' v _ _ hv hv' (by omega) (by omega))
  have K7 := Lib.hid (fun v (hv : NS .u32 v v.heap.size A n l) => filterAll A A n n c c l l v hv hv (by omega) (by omega))
  rw [hL1] at K1 K2 hal
  rw [hL2] at K3 K4 hdl
  rw [hr] at K5 K6
  rw [hr2] at K7
  clear hL1 hL2 hr hr2
  have HL1 := Lib.hid hal
  have HL2 := Lib.hid hdl
  clear hal hdl hln
  go_enter Tryd.func17, Tryd.ntmps17
  go_wp2_with fail
  refine (K1.out _ h).mono ?_
  rintro _ w1 ⟨A1, n1, c1, rfl, s1, b1⟩
  have b01 := b1
  have h_1 := h.call b1
  have h'_1 := h'.call b1
  go_wp2_with fail
  refine (K2.out _ h_1).mono ?_
  rintro _ w2 ⟨A2, n2, c2, rfl, s2, b2⟩
  have b02 := btr b01 b2 b01.size
  have h_2 := h_1.call b2
  clear h_1
  have h'_2 := h'_1.call b2
  clear h'_1
  have s1_2 := s1.call b2
  go_wp2_with fail
  refine ((by have e := refNumsB A1 A2 n1 n2 c1 c2 L1 L1 _ _ _ s1_2 s2 (by have := s1.1; have := HL1.out; omega); rw [beq_self_eq_true] at e; exact e : Calls Tryd.prog 78 _ w2 fun en w' => en = .returned (.bool true) ∧ Below w2.heap.size w2 w')).mono ?_
  rintro _ w3 ⟨rfl, b3⟩
  have b03 := btr b02 b3 b02.size
  have h_3 := h_2.call b3
  clear h_2
  have h'_3 := h'_2.call b3
  clear h'_2
  have s1_3 := s1_2.call b3
  clear s1_2
  have s2_3 := s2.call b3
  go_wp2_with fail
  refine (K3.out _ h_3).mono ?_
  rintro _ w4 ⟨A4, n4, c4, rfl, s4, b4⟩
  have b04 := btr b03 b4 b03.size
  have h_4 := h_3.call b4
  clear h_3
  have h'_4 := h'_3.call b4
  clear h'_3
  go_wp2_with fail
  refine (K4.out _ h_4).mono ?_
  rintro _ w5 ⟨A5, n5, c5, rfl, s5, b5⟩
  have b05 := btr b04 b5 b04.size
  have h_5 := h_4.call b5
  clear h_4
  have h'_5 := h'_4.call b5
  clear h'_4
  have s4_5 := s4.call b5
  go_wp2_with fail
  refine ((by have e := refNumsB A4 A5 n4 n5 c4 c5 L2 L2 _ _ _ s4_5 s5 (by have := s4.1; have := HL2.out; omega); rw [beq_self_eq_true] at e; exact e : Calls Tryd.prog 78 _ w5 fun en w' => en = .returned (.bool true) ∧ Below w5.heap.size w5 w')).mono ?_
  rintro _ w6 ⟨rfl, b6⟩
  have b06 := btr b05 b6 b05.size
  have h_6 := h_5.call b6
  clear h_5
  have h'_6 := h'_5.call b6
  clear h'_5
  have s4_6 := s4_5.call b6
  clear s4_5
  have s5_6 := s5.call b6
  go_wp2_with fail
  refine (K5.out _ h_6 h'_6).mono ?_
  rintro _ w7 ⟨rfl, b7⟩
  have b07 := btr b06 b7 b06.size
  have h_7 := h_6.call b7
  clear h_6
  have h'_7 := h'_6.call b7
  clear h'_6
  go_wp2_with fail
  refine (K6.out _ h_7 h'_7).mono ?_
  rintro _ _ ⟨rfl, rfl⟩
  go_wp2_with fail
  refine (K7.out _ h_7).mono ?_
  rintro _ w8 ⟨rfl, b8⟩
  have b08 := btr b07 b8 b07.size
  have h_8 := h_7.call b8
  clear h_7
  have h'_8 := h'_7.call b8
  clear h'_7
  go_wp2_with fail
  refine (awake12 _ (ht.call b08)).mono ?_
  rintro _ w9 ⟨rfl, b9⟩
  have b09 := btr b08 b9 b08.size
  have h_9 := h_8.call b9
  clear h_8
  have h'_9 := h'_8.call b9
  clear h'_8
  go_wp2_with fail
  go_ret
  exact ⟨rfl, b09⟩
end Go.Proofs.YtnhkpnohadbcdaaDoor
