/- Walks of layer 12 (filter): All, Add, and the document's. No conditions but sizes. -/
import Derived.Test.YtnhkpnohadbcdaaDoorProg
import Derived.WalkKit
import Derived.WalkSpells
import Derived.WalkLawsBesides
import Derived.Outline
import Derived.Deep.QuietTactic
import Derived.BigQuiet
import Derived.Handy
import Derived.Lib.Hide
import Derived.Test.YtnhkpnohadbcdaaDoorNums
namespace Go.Proofs.YtnhkpnohadbcdaaDoor
open Go.RowKit
set_option linter.unusedSimpArgs false
theorem NS.wfN {k : IntKind} {w : World} {B n : Nat} {A : Option Addr} {l : List Int} (h : NS k w B A n l) (j : Nat) : (Lit.int k (l[j]?.getD 0)).wf = true := by
  rcases Nat.lt_or_ge j l.length with hj | hj
  · rw [List.getElem?_eq_getElem hj]
    exact h.2.2 _ (List.getElem_mem hj)
  · rw [List.getElem?_eq_none hj]
    cases k <;> decide
def allN (l want : List Int) : Bool := want.all fun x => hasN l x
theorem allN_no {l want : List Int} {j : Nat} (hj : j < want.length) (h : hasN l (want[j]?.getD 0) = false) : allN l want = false := by
  refine List.all_eq_false.2 ⟨want[j]?.getD 0, ?_, by rw [h]; simp⟩
  rw [List.getElem?_eq_getElem hj]
  exact List.getElem_mem hj
theorem allN_yes {l want : List Int} (h : ∀ i, i < want.length → hasN l (want[i]?.getD 0) = true) : allN l want = true := by
  refine List.all_eq_true.2 fun x hx => ?_
  obtain ⟨i, hi, e⟩ := List.getElem_of_mem hx
  have := h i hi
  rw [List.getElem?_eq_getElem hi, Option.getD_some, e] at this
  exact this
theorem allN_self (l : List Int) : allN l l = true := List.all_eq_true.2 fun _ hx => decide_eq_true hx
def addN (l : List Int) (c : Int) : List Int := if hasN l c = true ∨ 32 ≤ l.length then l else l ++ [c]
set_option maxHeartbeats 1000000 in
set_option maxRecDepth 100000 in
theorem refHas (A : Option Addr) (n c : Nat) (l : List Int) (x : Int) (w : World) (B : Nat) (h : NS .u32 w B A n l) (hbd : n ≤ 100000) :
    Calls Tryd.prog 109 #[.slice A n c, .int .u32 x] w fun en w' => en = .returned (.bool (hasN l x)) ∧ w = w' := by
  have HN := Lib.hid h.1
  go_enter Tryd.func109, Tryd.ntmps109
  go_wp2_with fail
  go_loop [5] (fun i => ∃ j : Nat, j ≤ n ∧ i = .int .i64 j ∧ Hid (∀ i, i < j → l[i]?.getD 0 ≠ x)) (fun i => n - (intOf i).toNat)
  case atStart => exact ⟨0, by omega, rfl, Lib.hid fun i h => by omega⟩
  case round =>
    obtain ⟨j, hj, rfl, hno⟩ := hrel
    by_cases hlt : j < n
    · obtain ⟨b, off, rfl, hbw, hcw⟩ := h.form hlt
      have hd : decide ((j : Int) < n) = true := decide_eq_true (by omega)
      obtain ⟨y, hy⟩ : ∃ y, l[j]?.getD 0 = y := ⟨_, rfl⟩
      rw [hy] at hcw
      have HY := Lib.hid hy
      clear hy
      by_cases e : y = x
      · subst e
        have HG := Lib.hid (hasN_at (by rw [← HN.out]; exact hlt) HY.out)
        go_wp2_with fail
        go_ret
        exact ⟨ret_b HG.out.symm, rfl⟩
      · have ht2 : (y == x) = false := by simpa using e
        have HS := Lib.hid (step_no hno.out (by rw [HY.out]; exact e))
        go_wp2_with fail
        go_round
        case rel => exact ⟨j + 1, by omega, by go_num, HS⟩
        case measure => simp [intOf]; omega
    · have hd : decide ((j : Int) < n) = false := decide_eq_false (by omega)
      have HG := Lib.hid (hasN_no (l := l) (c := x) (fun i hi => hno.out i (by have := HN.out; omega)))
      go_wp2_with fail
      go_ret
      exact ⟨ret_b HG.out.symm, rfl⟩
set_option maxHeartbeats 1000000 in
set_option maxRecDepth 100000 in
theorem ref12All (A A' : Option Addr) (n n' c c' : Nat) (l l' : List Int) (w : World) (B B' : Nat) (h : NS .u32 w B A n l) (h' : NS .u32 w B' A' n' l') (hbd : n ≤ 100000) (hbd' : n' ≤ 100000) :
    Calls Tryd.prog 84 #[.slice A n c, .slice A' n' c'] w fun en w' => en = .returned (.bool (allN l l')) ∧ w = w' := by
  have HN := Lib.hid h'.1
  go_enter Tryd.func84, Tryd.ntmps84
  go_wp2_with fail
  go_loop [5] (fun i => ∃ j : Nat, j ≤ n' ∧ i = .int .i64 j ∧ Hid (∀ i, i < j → hasN l (l'[i]?.getD 0) = true)) (fun i => n' - (intOf i).toNat)
  case atStart => exact ⟨0, by omega, rfl, Lib.hid fun i h => by omega⟩
  case round =>
    obtain ⟨j, hj, rfl, hno⟩ := hrel
    by_cases hlt : j < n'
    · obtain ⟨b, off, rfl, hbw, hcw⟩ := h'.form hlt
      have hd : decide ((j : Int) < n') = true := decide_eq_true (by omega)
      obtain ⟨y, hy⟩ : ∃ y, l'[j]?.getD 0 = y := ⟨_, rfl⟩
      rw [hy] at hcw
      have HY := Lib.hid hy
      clear hy
      cases e : hasN l y
      · have HG := Lib.hid (allN_no (l := l) (want := l') (j := j) (by rw [← HN.out]; exact hlt) (by rw [HY.out]; exact e))
        have HC := refHas A n c l y w B h hbd
        rw [e] at HC
        clear e
        go_wp2_with fail
        refine HC.mono ?_
        rintro _ _ ⟨rfl, rfl⟩
        go_wp2_with fail
        go_ret
        exact ⟨ret_b HG.out.symm, rfl⟩
      · have HS := Lib.hid (show ∀ i, i < j + 1 → hasN l (l'[i]?.getD 0) = true from fun i hi => by
          rcases Nat.lt_or_ge i j with h1 | h1
          · exact hno.out i h1
          · rw [show i = j by omega, HY.out]; exact e)
        have HC := refHas A n c l y w B h hbd
        rw [e] at HC
        clear e
        go_wp2_with fail
        refine HC.mono ?_
        rintro _ _ ⟨rfl, rfl⟩
        go_wp2_with fail
        go_round
        case rel => exact ⟨j + 1, by omega, by go_num, HS⟩
        case measure => simp [intOf]; omega
    · have hd : decide ((j : Int) < n') = false := decide_eq_false (by omega)
      have HG := Lib.hid (allN_yes (l := l) (want := l') (fun i hi => hno.out i (by have := HN.out; omega)))
      go_wp2_with fail
      go_ret
      exact ⟨ret_b HG.out.symm, rfl⟩
set_option maxHeartbeats 1000000 in
set_option maxRecDepth 100000 in
/-- The test that All hands to the library. -/
theorem allFn (A : Option Addr) (n c : Nat) (l : List Int) (x : Int) (g : Nat) (w : World) (B : Nat) (h : NS .u32 w B A n l) (hbd : n ≤ 100000) (c0 : w.cell? ⟨g, 0, none⟩ = some (.slice A n c)) :
    Calls Tryd.prog 113 #[.int .u32 x, .pointer (some ⟨g, 0, none⟩)] w fun en w' => en = .returned (.bool (!hasN l x)) ∧ w = w' := by
  have HC := containsU A n c l x w B h hbd
  go_enter Tryd.func113, Tryd.ntmps113
  go_wp2_with fail
  refine HC.mono ?_
  rintro _ _ ⟨rfl, rfl⟩
  go_wp2_with fail
  go_ret
  exact ⟨rfl, rfl⟩
set_option maxHeartbeats 1000000 in
set_option maxRecDepth 100000 in
theorem allIdx (A A' : Option Addr) (n n' c c' : Nat) (l l' : List Int) (g : Nat) (w : World) (B B' : Nat) (h : NS .u32 w B A n l) (h' : NS .u32 w B' A' n' l') (hbd : n ≤ 100000) (hbd' : n' ≤ 100000) (c0 : w.cell? ⟨g, 0, none⟩ = some (.slice A n c)) :
    Calls Tryd.prog 122 #[.slice A' n' c', .func (.func 113) #[] #[.pointer (some ⟨g, 0, none⟩)]] w fun en w' => (∃ v : Int, en = .returned (.int .i64 v) ∧ decide (0 ≤ v) = !allN l l') ∧ w = w' := by
  have HN := Lib.hid h'.1
  go_enter Tryd.func122, Tryd.ntmps122
  go_wp2_with fail
  go_loop [8] (fun i => ∃ j : Nat, j ≤ n' ∧ i = .int .i64 j ∧ Hid (∀ i, i < j → hasN l (l'[i]?.getD 0) = true)) (fun i => n' - (intOf i).toNat)
  case atStart => exact ⟨0, by omega, rfl, Lib.hid fun i h => by omega⟩
  case round =>
    obtain ⟨j, hj, rfl, hno⟩ := hrel
    by_cases hlt : j < n'
    · obtain ⟨b, off, rfl, hbw, hcw⟩ := h'.form hlt
      have hd : decide ((j : Int) < n') = true := decide_eq_true (by omega)
      obtain ⟨y, hy⟩ : ∃ y, l'[j]?.getD 0 = y := ⟨_, rfl⟩
      rw [hy] at hcw
      have HY := Lib.hid hy
      clear hy
      have HC := allFn A n c l y g w B h hbd c0
      cases e : hasN l y
      · have HG := Lib.hid (allN_no (l := l) (want := l') (j := j) (by rw [← HN.out]; exact hlt) (by rw [HY.out]; exact e))
        rw [e] at HC
        clear e
        go_wp2_with fail
        refine HC.mono ?_
        rintro _ _ ⟨rfl, rfl⟩
        go_wp2_with fail
        go_ret
        exact ⟨⟨j, rfl, by rw [HG.out]; exact decide_eq_true (by omega)⟩, rfl⟩
      · have HS := Lib.hid (show ∀ i, i < j + 1 → hasN l (l'[i]?.getD 0) = true from fun i hi => by
          rcases Nat.lt_or_ge i j with h1 | h1
          · exact hno.out i h1
          · rw [show i = j by omega, HY.out]; exact e)
        rw [e] at HC
        clear e
        go_wp2_with fail
        refine HC.mono ?_
        rintro _ _ ⟨rfl, rfl⟩
        go_wp2_with fail
        go_round
        case rel => exact ⟨j + 1, by omega, by go_num, HS⟩
        case measure => simp [intOf]; omega
    · have hd : decide ((j : Int) < n') = false := decide_eq_false (by omega)
      have HG := Lib.hid (allN_yes (l := l) (want := l') (fun i hi => hno.out i (by have := HN.out; omega)))
      go_wp2_with fail
      go_ret
      exact ⟨⟨-1, rfl, by rw [HG.out]; decide⟩, rfl⟩
set_option maxHeartbeats 1000000 in
set_option maxRecDepth 100000 in
theorem filterAll (A A' : Option Addr) (n n' c c' : Nat) (l l' : List Int) (w : World) (h : NS .u32 w w.heap.size A n l) (h' : NS .u32 w w.heap.size A' n' l') (hbd : n ≤ 100000) (hbd' : n' ≤ 100000) :
    Calls Tryd.prog 83 #[.slice A n c, .slice A' n' c'] w fun en w' => en = .returned (.bool (allN l l')) ∧ Below w.heap.size w w' := by
  have b0 := (Below.refl w.heap.size w).alloc (Nat.le_refl _) (.cells #[.slice A n c] 92)
  have HC : ∀ v : World, v = w.alloc (.cells #[.slice A n c] 92) → Calls Tryd.prog 112 #[.slice A' n' c', .func (.func 113) #[] #[.pointer (some ⟨w.heap.size, 0, none⟩)]] v fun en w' => en = .returned (.bool (!allN l l')) ∧ v = w' := by
    rintro v rfl
    have HI := allIdx A A' n n' c c' l l' w.heap.size _ _ _ (h.below b0) (h'.below b0) hbd hbd' ((Blk.new w 92 #[.slice A n c]).cell 0)
    obtain ⟨r, hr⟩ : ∃ r, (!allN l l') = r := ⟨_, rfl⟩
    rw [hr] at HI ⊢
    clear hr
    go_enter Tryd.func112, Tryd.ntmps112
    go_wp2_with fail
    refine HI.mono ?_
    rintro _ _ ⟨⟨v, rfl, hv⟩, rfl⟩
    cases r
    all_goals
      go_wp2_with fail
      go_ret
      exact ⟨ret_b (by first | exact hv | rfl), rfl⟩
  go_enter Tryd.func83, Tryd.ntmps83
  go_wp2_with fail
  refine (HC _ rfl).mono ?_
  rintro _ _ ⟨rfl, rfl⟩
  go_wp2_with fail
  go_ret
  exact ⟨ret_b (by simp), b0⟩
theorem addN_yes {l : List Int} {c : Int} (h : hasN l c = true ∨ 32 ≤ l.length) : addN l c = l := by unfold addN; rw [if_pos h]
theorem addN_no {l : List Int} {c : Int} (h : hasN l c = false) (h2 : ¬ 32 ≤ l.length) : addN l c = l ++ [c] := by unfold addN; rw [if_neg (by rw [h]; simp; omega)]
set_option maxHeartbeats 1000000 in
set_option maxRecDepth 100000 in
theorem filterAdd (A : Option Addr) (n c : Nat) (l : List Int) (x : Int) (hx : (Lit.int .u32 x).wf = true) (w : World) (h : NS .u32 w w.heap.size A n l) (hbd : n ≤ 100000) :
    Calls Tryd.prog 79 #[.slice A n c, .int .u32 x] w (RetU w (addN l x)) := by
  have HN := Lib.hid h.1
  have HC := containsU A n c l x w _ h hbd
  obtain ⟨L, hL⟩ : ∃ L, addN l x = L := ⟨_, rfl⟩
  rw [hL]
  have key : hasN l x = true ∨ 32 ≤ n → L = l := fun e => by rw [← hL]; exact addN_yes (by rw [← HN.out]; exact e)
  have key2 : hasN l x = false → ¬ 32 ≤ n → L = l ++ [x] := fun e e2 => by rw [← hL]; exact addN_no e (by rw [← HN.out]; exact e2)
  have HK := Lib.hid key
  have HK2 := Lib.hid key2
  clear hL key key2
  cases e : hasN l x
  · rw [e] at HC
    by_cases hl : 32 ≤ n
    · have HG := Lib.hid (HK.out (.inr hl))
      have hd : decide (32 ≤ (n : Int)) = true := decide_eq_true (by omega)
      clear e
      go_enter Tryd.func79, Tryd.ntmps79
      go_wp2_with fail
      refine HC.mono ?_
      rintro _ _ ⟨rfl, rfl⟩
      go_wp2_with fail
      refine (cloneU A n c l w h hbd).mono ?_
      rintro _ w1 ⟨A1, n1, c1, rfl, o1, b1⟩
      go_wp2_with fail
      go_ret
      exact ⟨A1, n1, c1, rfl, by rw [HG.out]; exact o1.ns, b1⟩
    · have HG := Lib.hid (HK2.out e hl)
      have hd : decide (32 ≤ (n : Int)) = false := decide_eq_false (by omega)
      clear e
      go_enter Tryd.func79, Tryd.ntmps79
      go_wp2_with fail
      refine HC.mono ?_
      rintro _ _ ⟨rfl, rfl⟩
      go_wp2_with fail
      refine (cloneU A n c l w h hbd).mono ?_
      rintro _ w1 ⟨A1, n1, c1, rfl, o1, b1⟩
      go_wp2_with (at_builtin; refine wpl_appU rfl (.tmp 16) (.tmp 18) rfl w.heap.size A1 n1 c1 l (by rfl) (o1.alloc _) (w1.heap.size + 1) (some ⟨w1.heap.size, 0, none⟩) 1 1 [x] (by rfl) (NS.one w1 hx rfl) (by rw [← HN.out]; simp; omega) (by have := b1.size; simp; omega) ?_; intro A2 n2 c2 w2 o2 b2 _)
      all_goals go_ret
      all_goals exact ⟨A2, n2, c2, rfl, by rw [HG.out]; exact o2.ns, (b1.alloc b1.size _).trans b2⟩
  · rw [e] at HC
    have HG := Lib.hid (HK.out (.inl e))
    clear e
    go_enter Tryd.func79, Tryd.ntmps79
    go_wp2_with fail
    refine HC.mono ?_
    rintro _ _ ⟨rfl, rfl⟩
    go_wp2_with fail
    refine (cloneU A n c l w h hbd).mono ?_
    rintro _ w1 ⟨A1, n1, c1, rfl, o1, b1⟩
    go_wp2_with fail
    go_ret
    exact ⟨A1, n1, c1, rfl, by rw [HG.out]; exact o1.ns, b1⟩
set_option maxHeartbeats 1000000 in
set_option maxRecDepth 100000 in
theorem ref12Add (A : Option Addr) (n c : Nat) (l : List Int) (x : Int) (hx : (Lit.int .u32 x).wf = true) (w : World) (h : NS .u32 w w.heap.size A n l) (hbd : n ≤ 100000) :
    Calls Tryd.prog 80 #[.slice A n c, .int .u32 x] w (RetU w (addN l x)) := by
  have HN := Lib.hid h.1
  have HC := refHas A n c l x w _ h hbd
  obtain ⟨L, hL⟩ : ∃ L, addN l x = L := ⟨_, rfl⟩
  rw [hL]
  have key : hasN l x = true ∨ 32 ≤ n → L = l := fun e => by rw [← hL]; exact addN_yes (by rw [← HN.out]; exact e)
  have key2 : hasN l x = false → ¬ 32 ≤ n → L = l ++ [x] := fun e e2 => by rw [← hL]; exact addN_no e (by rw [← HN.out]; exact e2)
  have HK := Lib.hid key
  have HK2 := Lib.hid key2
  clear hL key key2
  cases e : hasN l x
  · rw [e] at HC
    by_cases hl : 32 ≤ n
    · have HG := Lib.hid (HK.out (.inr hl))
      have hd : decide (32 ≤ (n : Int)) = true := decide_eq_true (by omega)
      clear e
      go_enter Tryd.func80, Tryd.ntmps80
      go_wp2_with fail
      refine HC.mono ?_
      rintro _ _ ⟨rfl, rfl⟩
      go_wp2_with fail
      go_ret
      exact ⟨A, n, c, rfl, by rw [HG.out]; exact h, Below.refl _ _⟩
    · have HG := Lib.hid (HK2.out e hl)
      have hd : decide (32 ≤ (n : Int)) = false := decide_eq_false (by omega)
      clear e
      go_enter Tryd.func80, Tryd.ntmps80
      go_wp2_with fail
      refine HC.mono ?_
      rintro _ _ ⟨rfl, rfl⟩
      go_wp2_with (first
        | (at_builtin; refine wpl_appU rfl (.tmp 15) (.tmp 16) rfl w.heap.size _ 0 0 [] (by rfl) OU.nil_ w.heap.size A n c l (by rfl) h (by rw [← HN.out]; simp; omega) (Nat.le_refl _) ?_; intro A2 n2 c2 w2 o2 b2 _; rw [List.nil_append] at o2)
        | (at_builtin; refine wpl_appU rfl (.tmp 18) (.tmp 20) rfl w.heap.size A2 n2 c2 l (by rfl) (o2.alloc _) (w2.heap.size + 1) (some ⟨w2.heap.size, 0, none⟩) 1 1 [x] (by rfl) (NS.one w2 hx rfl) (by rw [← HN.out]; simp; omega) (by have := b2.size; simp; omega) ?_; intro A3 n3 c3 w3 o3 b3 _))
      all_goals go_ret
      all_goals exact ⟨A3, n3, c3, rfl, by rw [HG.out]; exact o3.ns, (b2.alloc b2.size _).trans b3⟩
  · rw [e] at HC
    have HG := Lib.hid (HK.out (.inl e))
    clear e
    go_enter Tryd.func80, Tryd.ntmps80
    go_wp2_with fail
    refine HC.mono ?_
    rintro _ _ ⟨rfl, rfl⟩
    go_wp2_with fail
    go_ret
    exact ⟨A, n, c, rfl, by rw [HG.out]; exact h, Below.refl _ _⟩
end Go.Proofs.YtnhkpnohadbcdaaDoor
