/- Lists of numbers of four bytes: what the library's functions on them do, and those of layers 3 and 12. No conditions but sizes. -/
import Derived.Test.YtlpkngjeihoknaaDoorProg
import Derived.WalkKit
import Derived.WalkSpells
import Derived.WalkLawsBesides
import Derived.Outline
import Derived.Deep.QuietTactic
import Derived.BigQuiet
import Derived.Handy
import Derived.Lib.Hide
import Derived.Lib.SliceRun
import Derived.Test.YtlpkngjeihoknaaDoorDeep
import Derived.Test.YtlpkngjeihoknaaDoorNSl
namespace Go.Proofs.YtlpkngjeihoknaaDoor
open Go.RowKit
set_option linter.unusedSimpArgs false
def hasN (l : List Int) (c : Int) : Bool := decide (c ∈ l)
theorem hasN_at {l : List Int} {c : Int} {j : Nat} (hj : j < l.length) (h : l[j]?.getD 0 = c) : hasN l c = true := by
  unfold hasN
  rw [List.getElem?_eq_getElem hj] at h
  exact decide_eq_true (h ▸ List.getElem_mem hj)
theorem hasN_no {l : List Int} {c : Int} (h : ∀ i, i < l.length → l[i]?.getD 0 ≠ c) : hasN l c = false := by
  unfold hasN
  refine decide_eq_false fun hm => ?_
  obtain ⟨i, hi, e⟩ := List.getElem_of_mem hm
  refine h i hi ?_
  rw [List.getElem?_eq_getElem hi]
  exact e
theorem step_no {l : List Int} {c : Int} {j : Nat} (h : ∀ i, i < j → l[i]?.getD 0 ≠ c) (hj : l[j]?.getD 0 ≠ c) : ∀ i, i < j + 1 → l[i]?.getD 0 ≠ c := by
  intro i hi
  rcases Nat.lt_or_ge i j with h1 | h1
  · exact h i h1
  · rw [show i = j by omega]; exact hj
theorem NS.call {k : IntKind} {w w' : World} {n : Nat} {A : Option Addr} {l : List Int} (h : NS k w w.heap.size A n l) (hb : Below w.heap.size w w') : NS k w' w'.heap.size A n l := (h.below hb).more hb.size
theorem u32info : (Tryd.prog.info? 33).map (fun i => (i.zero, i.size, i.bytes)) = some (some (.int .u32 0), 1, 4) := by kernel_rfl
def un (l : List Int) : List Value := l.map (Value.int .u32)
theorem un_length (l : List Int) : (un l).length = l.length := by simp [un]
theorem un_append (l l' : List Int) : un (l ++ l') = un l ++ un l' := by simp [un]
theorem un_one (l : List Int) : ∀ u ∈ un l, u.oneCell' = true := by
  intro u hu
  obtain ⟨x, _, rfl⟩ := List.mem_map.1 hu
  rfl
/-- Numbers of the call's own. -/
def OU (w : World) (base : Nat) (A : Option Addr) (n c : Nat) (l : List Int) : Prop := n = l.length ∧ w.ownsRow base 33 1 (.slice A n c) n (un l) ∧ ∀ x ∈ l, (Lit.int .u32 x).wf = true
section
variable {w w' : World} {base n c : Nat} {A : Option Addr} {l : List Int}
theorem OU.nil_ : OU w base none 0 0 [] := ⟨rfl, World.ownsRow_nil _ _ _ _, fun x h => by cases h⟩
theorem OU.empty (w : World) {base : Nat} (hb : base ≤ w.heap.size) : OU (w.alloc (.cells #[] 33)) base (some ⟨w.heap.size, 0, none⟩) 0 0 [] :=
  ⟨rfl, ⟨rfl, .inr ⟨w.heap.size, 0, #[], rfl, hb, Blk.new w 33 #[], Nat.le_refl _, by unfold maxLen; omega, rfl, rfl⟩⟩, fun x h => by cases h⟩
theorem OU.alloc (h : OU w base A n c l) (o : Obj) : OU (w.alloc o) base A n c l := ⟨h.1, h.2.1.alloc o, h.2.2⟩
theorem OU.ns (h : OU w base A n c l) : NS .u32 w w.heap.size A n l := ⟨h.1, Reads.of_own h.2.1, h.2.2⟩
theorem OU.call (h : OU w base A n c l) (hb : Below w.heap.size w w') : OU w' base A n c l := ⟨h.1, own_below h.2.1 hb, h.2.2⟩
theorem OU.cap (h : OU w base A n c l) : n ≤ c := own_cap h.2.1
end
theorem wpl_appU {w : World} {ops : Array Oper} {rest : List Oper} {o : Oper} {a : Act} {Q : Exit → Act → World → Prop} (hgd : o.guard = none) (s x : Operand)
    (ho : o.op = .call { callee := .builtin .append, args := #[s, x], argTypes := #[37, 37] })
    (base : Nat) (A : Option Addr) (n c : Nat) (l : List Int) (hs : a.eval s = .slice A n c) (hown : OU w base A n c l)
    (B : Nat) (A' : Option Addr) (m c' : Nat) (l' : List Int) (hx : a.eval x = .slice A' m c') (hr : NS .u32 w B A' m l')
    (hlen : l.length + l'.length ≤ 35184372088832) (hbase : base ≤ w.heap.size)
    (h : ∀ (A2 : Option Addr) (n2 c2 : Nat) (w' : World), OU w' base A2 n2 c2 (l ++ l') → Below base w w' → w.grownBy w' (Value.ownBlock (.slice A n c)) → wpList Tryd.prog ops Q rest (a.put o.dst (.slice A2 n2 c2)) w') : wpList Tryd.prog ops Q (o :: rest) a w := by
  have e1 := hown.1
  have e2 : m = l'.length := hr.1
  refine wpl_appR hgd s x 37 ho 33 (.int .u32 0) 1 4 Tryd.underlying37 u32info rfl (by omega) base A n c (un l) hs hown.2.1 B A' m c' (un l') hx hr.2.1 (un_one l') (by unfold maxLen; omega) (by omega) hbase ?_
  intro A2 c2 w' o' b' g' _
  exact h A2 (n + m) c2 w' ⟨by rw [List.length_append]; omega, by rw [un_append]; exact o', fun x hx => by
    rcases List.mem_append.1 hx with hx | hx
    · exact hown.2.2 x hx
    · exact hr.2.2 x hx⟩ b' g'
/-- One number in a new block. -/
theorem NS.one (w : World) {x : Int} (hx : (Lit.int .u32 x).wf = true) {g : Nat} (hg : g = w.heap.size) : NS .u32 (w.alloc (.cells #[.int .u32 x] 33)) (g + 1) (some ⟨g, 0, none⟩) 1 [x] := by
  subst hg
  refine ⟨rfl, ⟨rfl, fun _ => ⟨_, rfl, by simp, fun j u hu => ?_⟩⟩, fun y hy => by simp at hy; subst hy; exact hx⟩
  match j, hu with
  | 0, hu =>
    simp only [List.map_cons, List.map_nil, List.getElem?_cons_zero, Option.some.injEq] at hu
    subst hu
    exact (Blk.new w 33 #[.int .u32 x]).cell 0
/-- Fresh numbers, or those that were there, are handed back. -/
def RetU (w : World) (l : List Int) (e : Ending) (w' : World) : Prop := ∃ (A : Option Addr) (n c : Nat), e = .returned (.slice A n c) ∧ NS .u32 w' w'.heap.size A n l ∧ Below w.heap.size w w'
def RetOU (w : World) (l : List Int) (e : Ending) (w' : World) : Prop := ∃ (A : Option Addr) (n c : Nat), e = .returned (.slice A n c) ∧ OU w' w.heap.size A n c l ∧ Below w.heap.size w w'
set_option maxHeartbeats 1000000 in
set_option maxRecDepth 100000 in
theorem idxU (A : Option Addr) (n c : Nat) (l : List Int) (x : Int) (w : World) (B : Nat) (h : NS .u32 w B A n l) (hbd : n ≤ 35184372088832) :
    Calls Tryd.prog 112 #[.slice A n c, .int .u32 x] w fun en w' => (∃ v : Int, en = .returned (.int .i64 v) ∧ decide (0 ≤ v) = hasN l x) ∧ w = w' := by
  have HN := Lib.hid h.1
  go_enter Tryd.func112, Tryd.ntmps112
  go_wp2_with fail
  go_loop [8] (fun i => ∃ j : Nat, j ≤ n ∧ i = .int .i64 j ∧ Hid (∀ i, i < j → l[i]?.getD 0 ≠ x)) (fun i => n - (intOf i).toNat)
  case atStart => exact ⟨0, by omega, rfl, Lib.hid fun i h => by omega⟩
  case round =>
    obtain ⟨j, hj, rfl, hno⟩ := hrel
    by_cases hlt : j < n
    · obtain ⟨b, off, rfl, hbw, hcw⟩ := h.form hlt
      have hd : decide ((j : Int) < n) = true := decide_eq_true (by omega)
      obtain ⟨y, hy⟩ : ∃ y, l[j]?.getD 0 = y := ⟨_, rfl⟩
      rw [hy] at hcw
      have HY := Lib.hid hy
      clear hy
      by_cases e : x = y
      · subst e
        have HG := Lib.hid (hasN_at (by rw [← HN.out]; exact hlt) HY.out)
        go_wp2_with fail
        go_ret
        exact ⟨⟨j, rfl, by rw [HG.out]; exact decide_eq_true (by omega)⟩, rfl⟩
      · have ht2 : (x == y) = false := by simpa using e
        have HS := Lib.hid (step_no hno.out (by rw [HY.out]; exact fun e' => e e'.symm))
        go_wp2_with fail
        go_round
        case rel => exact ⟨j + 1, by omega, by go_num, HS⟩
        case measure => simp [intOf]; omega
    · have hd : decide ((j : Int) < n) = false := decide_eq_false (by omega)
      have HG := Lib.hid (hasN_no (l := l) (c := x) (fun i hi => hno.out i (by have := HN.out; omega)))
      go_wp2_with fail
      go_ret
      exact ⟨⟨-1, rfl, by rw [HG.out]; decide⟩, rfl⟩
set_option maxHeartbeats 1000000 in
set_option maxRecDepth 100000 in
theorem containsU (A : Option Addr) (n c : Nat) (l : List Int) (x : Int) (w : World) (B : Nat) (h : NS .u32 w B A n l) (hbd : n ≤ 35184372088832) :
    Calls Tryd.prog 73 #[.slice A n c, .int .u32 x] w fun en w' => en = .returned (.bool (hasN l x)) ∧ w = w' := by
  have HC := idxU A n c l x w B h hbd
  obtain ⟨r, hr⟩ : ∃ r, hasN l x = r := ⟨_, rfl⟩
  rw [hr] at HC ⊢
  clear hr
  go_enter Tryd.func73, Tryd.ntmps73
  go_wp2_with fail
  refine HC.mono ?_
  rintro _ _ ⟨⟨v, rfl, hv⟩, rfl⟩
  cases r
  all_goals
    go_wp2_with fail
    go_ret
    exact ⟨ret_b (by first | exact hv | rfl), rfl⟩
theorem nilU_eq (c : Nat) (W : World) : (binOp .eql 37 (.slice none 0 c) (.slice none 0 0)).run Tryd.prog W = .ok (.bool true) W := by kernel_rfl
theorem nilU_ne (A : Addr) (n c : Nat) (W : World) : (binOp .eql 37 (.slice (some A) n c) (.slice none 0 0)).run Tryd.prog W = .ok (.bool false) W := by kernel_rfl
theorem NS.nil_ {k : IntKind} {w : World} {B n : Nat} {l : List Int} (h : NS k w B none n l) : n = 0 ∧ l = [] := by
  have h0 : n = 0 := by
    rcases Nat.eq_zero_or_pos n with h0 | h0
    · exact h0
    · obtain ⟨_, _, e, _⟩ := h.form h0
      cases e
  exact ⟨h0, List.eq_nil_of_length_eq_zero (by rw [← h.1]; exact h0)⟩
set_option maxHeartbeats 1000000 in
set_option maxRecDepth 100000 in
theorem cloneU (A : Option Addr) (n c : Nat) (l : List Int) (w : World) (h : NS .u32 w w.heap.size A n l) (hn : n ≤ 35184372088832) :
    Calls Tryd.prog 88 #[.slice A n c] w (RetOU w l) := by
  rcases A with _ | A
  · obtain ⟨rfl, rfl⟩ := h.nil_
    have e := nilU_eq c
    go_enter Tryd.func88, Tryd.ntmps88
    go_wp2_with fail
    go_ret
    exact ⟨none, 0, 0, rfl, OU.nil_, Below.refl _ _⟩
  · have HLN := Lib.hid h.1
    have e := nilU_ne A n c
    go_enter Tryd.func88, Tryd.ntmps88
    go_wp2_with (at_builtin; refine wpl_appU rfl (.tmp 5) (.tmp 6) rfl w.heap.size _ 0 0 [] (by rfl) (OU.empty w (Nat.le_refl _)) w.heap.size (some A) n c l (by rfl) (h.below ((Below.refl _ _).alloc (Nat.le_refl _) _)) (by rw [← HLN.out]; simp; omega) (by simp) ?_; intro A2 n2 c2 w2 o2 b2 _)
    all_goals go_ret
    all_goals exact ⟨A2, n2, c2, rfl, o2, ((Below.refl _ _).alloc (Nat.le_refl _) _).trans b2⟩
set_option maxHeartbeats 1000000 in
set_option maxRecDepth 100000 in
theorem refNums (A A' : Option Addr) (n n' c c' : Nat) (l l' : List Int) (w : World) (B B' : Nat) (h : NS .u32 w B A n l) (h' : NS .u32 w B' A' n' l') (hbd : n ≤ 35184372088832) :
    Calls Tryd.prog 33 #[.slice A n c, .slice A' n' c'] w fun en w' => en = .returned (.bool (l == l')) ∧ ∃ q, w' = w.drewN q := by
  have hn : n = l.length := h.1
  have hn' : n' = l'.length := h'.1
  by_cases hlen : n = n'
  · have HN := Lib.hid hn
    have HN' := Lib.hid hn'
    subst hlen
    clear hn hn'
    go_enter Tryd.func33, Tryd.ntmps33
    go_wp2_with fail
    go_loopw [5] (fun i wr => ∃ j q : Nat, j ≤ n ∧ i = .int .i64 j ∧ wr = w.drewN q ∧ Hid (l.take j = l'.take j)) (fun i _ => n - (intOf i).toNat)
    case atStart => exact ⟨0, 0, by omega, rfl, rfl, Lib.hid rfl⟩
    case round =>
      obtain ⟨j, q, hj, rfl, rfl, ht⟩ := hrel
      by_cases hlt : j < n
      · obtain ⟨b, off, rfl, hbw, hcw⟩ := h.form hlt
        obtain ⟨b', off', rfl, hbw', hcw'⟩ := h'.form hlt
        have hlti : (j : Int) < n := by omega
        have hd : decide ((j : Int) < n) = true := decide_eq_true hlti
        obtain ⟨x, hx⟩ : ∃ x, l[j]?.getD 0 = x := ⟨_, rfl⟩
        obtain ⟨y, hy⟩ : ∃ y, l'[j]?.getD 0 = y := ⟨_, rfl⟩
        rw [hx] at hcw
        rw [hy] at hcw'
        have HXX := Lib.hid hx
        have HYY := Lib.hid hy
        clear hx hy
        by_cases e : x = y
        · subst e
          go_wp2_with fail
          go_quiet (fail)
          go_wp2_with fail
          go_roundw
          case rel =>
            refine ⟨j + 1, q + nq, by omega, by go_num, rfl, Lib.hid ?_⟩
            exact take_succ_eq ht.out (by have := HN.out; omega) (by have := HN'.out; omega) (HXX.out.trans HYY.out.symm)
          case measure => simp [intOf]; omega
        · have ht2 : (x != y) = true := by simpa using e
          go_wp2_with fail
          go_quiet (fail)
          go_wp2_with fail
          go_ret
          refine ⟨ret_b ?_, q + nq, World.drewN_drewN _ _ _⟩
          refine (beq_eq_false_iff_ne.2 fun hll => e ?_).symm
          rw [← HXX.out, ← HYY.out, hll]
      · have hj' : j = n := by omega
        go_wp2_with fail
        go_ret
        refine ⟨ret_b ?_, q, rfl⟩
        subst hj'
        have e := ht.out
        rw [List.take_of_length_le (by have := HN.out; omega), List.take_of_length_le (by have := HN'.out; omega)] at e
        rw [e, beq_self_eq_true]
  · have ht : ((n : Int) != n') = true := by simpa using (by omega : ¬ (n : Int) = n')
    have hf : (l == l') = false := beq_eq_false_iff_ne.2 fun e => hlen (by rw [hn, hn', e])
    go_enter Tryd.func33, Tryd.ntmps33
    go_wp2_with fail
    go_ret
    exact ⟨ret_b hf.symm, 0, rfl⟩
theorem refNumsB (A A' : Option Addr) (n n' c c' : Nat) (l l' : List Int) (w : World) (B B' : Nat) (h : NS .u32 w B A n l) (h' : NS .u32 w B' A' n' l') (hbd : n ≤ 35184372088832) :
    Calls Tryd.prog 33 #[.slice A n c, .slice A' n' c'] w fun en w' => en = .returned (.bool (l == l')) ∧ Below w.heap.size w w' :=
  (refNums A A' n n' c c' l l' w B B' h h' hbd).mono fun _ _ ⟨he, q, hq⟩ => ⟨he, by rw [hq]; exact below_drewN (Below.refl _ _) q⟩
end Go.Proofs.YtlpkngjeihoknaaDoor
