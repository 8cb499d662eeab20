/- Paths of the call's own, each part's numbers too, apart from one another: append onto them, and onto the last part's numbers. No conditions but sizes. -/
import Derived.Test.YtlpkngjeihoknaaDoorProg
import Derived.WalkKit
import Derived.WalkSpells
import Derived.WalkLawsBesides
import Derived.Outline
import Derived.Deep.QuietTactic
import Derived.BigQuiet
import Derived.Handy
import Derived.Lib.Hide
import Derived.Test.YtlpkngjeihoknaaDoorAspC
namespace Go.Proofs.YtlpkngjeihoknaaDoor
open Go.RowKit
set_option linter.unusedSimpArgs false
set_option linter.unusedVariables false
/-- A row of the call's own stays where a row of another type is written. -/
theorem own_own {w w' : World} {base base' : Nat} {e e' : TypeId} {s s' n n' : Nat} {v v' : Value} {xs xs' : List Value} (h : w.ownsRow base e s v n xs) (h' : w.ownsRow base' e' s' v' n' xs') (hne : e ≠ e') (hg : w.grownBy w' v'.ownBlock) : w'.ownsRow base e s v n xs := by
  refine h.kept hg ?_
  rcases h.2 with ⟨h2, _⟩ | ⟨g, cap, cur, hv, hb, hh, r⟩
  · left; rw [h2]; rfl
  · right
    intro e1
    rcases h'.2 with ⟨h3, _⟩ | ⟨g2, _, _, hv2, _, hh2, _⟩
    · rw [hv, h3] at e1; cases e1
    · rw [hv, hv2] at e1
      injection e1 with e1
      have e1 : g = g2 := e1
      subst e1
      rw [hh] at hh2
      injection hh2 with hh2
      injection hh2 with _ h4 _
      exact hne h4
theorem own_low {w : World} {base base' : Nat} {e : TypeId} {size n : Nat} {v : Value} {xs : List Value} (h : w.ownsRow base e size v n xs) (hb : base' ≤ base) : w.ownsRow base' e size v n xs := by
  refine ⟨h.1, ?_⟩
  rcases h.2 with h2 | ⟨g, cap, cur, hv, hg, r⟩
  · exact .inl h2
  · exact .inr ⟨g, cap, cur, hv, Nat.le_trans hb hg, r⟩
/-- append onto numbers of the call's own, in a region that draws its order. -/
theorem step_appU {w : World} {ops : Array Oper} {o : Oper} {a : Act} {K : Act → World → Prop} {Q : Exit → Act → World → Prop} {E : Prop} (hgd : o.guard = none) (s x : Operand)
    (ho : o.op = .call { callee := .builtin .append, args := #[s, x], argTypes := #[37, 37] })
    (base : Nat) (A : Option Addr) (n c : Nat) (l : List Int) (hs : a.eval s = .slice A n c) (hown : OU w base A n c l)
    (B : Nat) (A' : Option Addr) (m c' : Nat) (l' : List Int) (hx : a.eval x = .slice A' m c') (hr : NS .u32 w B A' m l')
    (hlen : l.length + l'.length ≤ 35184372088832) (hbase : base ≤ w.heap.size)
    (h : ∀ (A2 : Option Addr) (n2 c2 : Nat) (w' : World), OU w' base A2 n2 c2 (l ++ l') → Below base w w' → w.grownBy w' (Value.ownBlock (.slice A n c)) → (Value.ownBlock (.slice A2 n2 c2) = Value.ownBlock (.slice A n c) ∨ Value.ownBlock (.slice A2 n2 c2) = some w.heap.size) → K (a.put o.dst (.slice A2 n2 c2)) w') :
    if Region.wanted o (yielded ops a.tmps) = true then Oper.wp Tryd.prog o a w K Q else E := by
  have e1 := hown.1
  have e2 : m = l'.length := hr.1
  obtain ⟨i, hi, hz, h1', h2'⟩ : ∃ i, Tryd.prog.info? 33 = some i ∧ i.zero = some (.int .u32 0) ∧ i.size = 1 ∧ i.bytes = 4 := by
    have := u32info
    simp only [Option.map_eq_some_iff, Prod.mk.injEq] at this
    exact this
  refine step_append_any _ hgd s x 37 ho base 33 i (.int .u32 0) 1 4 Tryd.underlying37 hi hz h1' h2' rfl (by omega) (.slice A n c) n (un l) hs hown.2.1 B A' m c' (un l') hx hr.2.1 (un_one l') (by unfold maxLen; omega) (by omega) hbase ?_
  intro v' w' o' g' hat
  obtain ⟨A2, c2, rfl⟩ : ∃ A2 c2, v' = .slice A2 (n + m) c2 := by
    rcases o'.2 with ⟨rfl, hnil⟩ | ⟨g, cap, cur, hv, _⟩
    · exact ⟨none, 0, by rw [hnil]⟩
    · exact ⟨_, _, hv⟩
  exact h A2 (n + m) c2 w' ⟨by rw [List.length_append]; omega, by rw [un_append]; exact o', fun x hx => by
    rcases List.mem_append.1 hx with hx | hx
    · exact hown.2.2 x hx
    · exact hr.2.2 x hx⟩ ((Below.refl base w).grown g' hbase (fun k hk => (hown.2.1.lt k hk).1)) g' hat
/-- Where a part's numbers lie. -/
abbrev Hd := Option Addr × Nat × Nat
def Hd.v (p : Hd) : Value := .slice p.1 p.2.1 p.2.2
def segC (y : Seg × Hd) : List Value := [.int .i64 y.1.1, y.2.v]
def segsC (L : List (Seg × Hd)) : List Value := L.flatMap segC
theorem segsC_len (L : List (Seg × Hd)) : (segsC L).length = L.length * 2 := by
  induction L with
  | nil => rfl
  | cons a L ih => rw [segsC, List.flatMap_cons, List.length_append, ← segsC, ih]; simp [segC]; omega
theorem segsC_app (L M : List (Seg × Hd)) : segsC (L ++ M) = segsC L ++ segsC M := by simp [segsC]
theorem segsC_last {L : List (Seg × Hd)} {m : Nat} (hm : m = L.length) (x : Seg) (p : Hd) : (segsC (L ++ [(x, p)]))[m * 2 + 1]? = some p.v := by
  subst hm
  rw [segsC_app, List.getElem?_append_right (by rw [segsC_len]; omega), segsC_len, show L.length * 2 + 1 - L.length * 2 = 1 by omega]
  simp [segsC, segC]
theorem own_alloc2 {w : World} {base : Nat} {e : TypeId} {size n : Nat} {v : Value} {xs : List Value} (h : w.ownsRow base e size v n xs) (x : Obj) : (w.alloc x).ownsRow base e size v n xs := h.alloc x
theorem segsC_one (y : Seg × Hd) : segsC [y] = segC y := by simp [segsC]
theorem segsC_at {L : List (Seg × Hd)} {j : Nat} {y : Seg × Hd} (h : L[j]? = some y) (i : Nat) (hi : i < 2) : (segsC L)[j * 2 + i]? = (segC y)[i]? := by
  induction L generalizing j with
  | nil => simp at h
  | cons a L ih =>
    have e : segsC (a :: L) = segC a ++ segsC L := by simp [segsC]
    have hl : (segC a).length = 2 := rfl
    rw [e]
    cases j with
    | zero =>
      simp at h
      subst h
      rw [List.getElem?_append_left (by omega)]
      congr 1
      omega
    | succ j =>
      rw [List.getElem?_append_right (by omega), hl, show (j + 1) * 2 + i - 2 = j * 2 + i by omega]
      exact ih (by simpa using h)
def Apt (y z : Seg × Hd) : Prop := ∀ b, y.2.v.ownBlock = some b → z.2.v.ownBlock ≠ some b
/-- A path of the call's own. -/
def OP (w : World) (base : Nat) (A : Option Addr) (n c : Nat) (L : List (Seg × Hd)) : Prop :=
  n = L.length ∧ w.ownsRow base 73 2 (.slice A n c) n (segsC L) ∧ (∀ y ∈ L, OU w base y.2.1 y.2.2.1 y.2.2.2 y.1.2) ∧ L.Pairwise Apt
theorem seg_info : (Tryd.prog.info? 73).map (fun i => (i.zero, i.size, i.bytes)) = some (some (.agg #[.int .i64 0, .slice none 0 0]), 2, 32) := by kernel_rfl
section
variable {w w' : World} {base n c : Nat} {A : Option Addr} {L : List (Seg × Hd)}
theorem OP.nil_ : OP w base none 0 0 [] := ⟨rfl, World.ownsRow_nil _ _ _ _, fun x h => (by cases h), List.Pairwise.nil⟩
theorem OP.call (h : OP w base A n c L) (hb : Below w.heap.size w w') : OP w' base A n c L := ⟨h.1, own_below h.2.1 hb, fun y hy => (h.2.2.1 y hy).call hb, h.2.2.2⟩
theorem OU.low {base' : Nat} {l : List Int} (h : OU w base A n c l) (hb : base' ≤ base) : OU w base' A n c l := ⟨h.1, own_low h.2.1 hb, h.2.2⟩
theorem OP.low {base' : Nat} (h : OP w base A n c L) (hb : base' ≤ base) : OP w base' A n c L := ⟨h.1, own_low h.2.1 hb, fun y hy => (h.2.2.1 y hy).low hb, h.2.2.2⟩
theorem OP.cap (h : OP w base A n c L) : n ≤ c := own_cap h.2.1
theorem OP.dl (h : OP w base A n c L) : DL rSeg 2 w (Lo w) A n (L.map (·.1)) := by
  refine ⟨L.map segC, by simp, by rw [List.length_map]; exact h.1, ?_, fun i cs a hi ha => ?_, fun cs hcs => ?_⟩
  · have e : (L.map segC).flatten = segsC L := by simp [segsC, List.flatMap]
    rw [e]
    exact Rw.of_reads (Reads.of_own h.2.1) (by omega) (fun b hb => hb)
  · rw [List.getElem?_map] at hi ha
    obtain ⟨y, hy, rfl⟩ := Option.map_eq_some_iff.1 hi
    rw [hy] at ha
    simp only [Option.map_some, Option.some.injEq] at ha
    subst ha
    have ho := h.2.2.1 y (List.mem_of_getElem? hy)
    exact ⟨y.2.1, y.2.2.1, y.2.2.2, rfl, NF.of ho.ns (fun b hb => hb), ho.cap⟩
  · obtain ⟨y, _, rfl⟩ := List.mem_map.1 hcs
    rfl
/-- Part j, and where it stands. -/
theorem OP.at_ (h : OP w base A n c L) {j : Nat} {y : Seg × Hd} (hj : L[j]? = some y) : ∃ g, A = some ⟨g, 0, none⟩ ∧ base ≤ g ∧ g < w.heap.size ∧ w.cell? ⟨g, j * 2, none⟩ = some (.int .i64 y.1.1) ∧ w.cell? ⟨g, j * 2 + 1, none⟩ = some y.2.v ∧ (∀ i, w.frozen? ⟨g, i, none⟩ = false) := by
  have hl := (List.getElem?_eq_some_iff.1 hj).1
  obtain ⟨g, cap, hv, hb, hlt⟩ := h.2.1.form (by have := h.1; omega)
  injection hv with h1 h2 h3
  subst h1
  have ho := h.2.1
  refine ⟨g, rfl, hb, hlt, ?_, ?_, fun i => ho.frozenAt i⟩
  · rw [ho.cellAt (j * 2) (by have := h.1; omega)]
    have := segsC_at hj 0 (by omega)
    rw [Nat.add_zero] at this
    rw [this]; rfl
  · rw [ho.cellAt (j * 2 + 1) (by have := h.1; omega), segsC_at hj 1 (by omega)]; rfl
/-- One part more, its numbers apart from all others. -/
theorem OP.push (h : OP w base A n c L) {A' : Option Addr} {c' : Nat} {y : Seg × Hd} (hy : OU w base y.2.1 y.2.2.1 y.2.2.2 y.1.2) (ha : ∀ z ∈ L, Apt z y) (ho : w'.ownsRow base 73 2 (.slice A' (n + 1) c') (n + 1) (segsC L ++ segC y)) (hg : w.grownBy w' (Value.ownBlock (.slice A n c))) : OP w' base A' (n + 1) c' (L ++ [y]) := by
  refine ⟨by rw [List.length_append, h.1]; rfl, by rw [segsC_app, segsC_one]; exact ho, fun z hz => ?_, List.pairwise_append.2 ⟨h.2.2.2, List.pairwise_singleton _ _, fun z hz u hu => by simp at hu; subst hu; exact ha z hz⟩⟩
  have key : OU w base z.2.1 z.2.2.1 z.2.2.2 z.1.2 := by
    rcases List.mem_append.1 hz with hz | hz
    · exact h.2.2.1 z hz
    · simp at hz; subst hz; exact hy
  exact ⟨key.1, own_own key.2.1 h.2.1 (by decide) hg, key.2.2⟩
/-- The last part's numbers have grown. -/
theorem OP.grow {g m : Nat} {x : Seg} {p : Hd} {ys : List Int} {A2 : Option Addr} {n2 c2 : Nat} (h : OP w base (some ⟨g, 0, none⟩) n c (L ++ [(x, p)])) (hm : m = L.length) (ho : OU w' base A2 n2 c2 (x.2 ++ ys)) (hg : w.grownBy w' p.v.ownBlock) (hat : Value.ownBlock (.slice A2 n2 c2) = p.v.ownBlock ∨ Value.ownBlock (.slice A2 n2 c2) = some w.heap.size) :
    OP (w'.setCell ⟨g, m * 2 + 1, none⟩ (.slice A2 n2 c2)) base (some ⟨g, 0, none⟩) n c (L ++ [((x.1, x.2 ++ ys), (A2, n2, c2))]) := by
  subst hm
  have hp : OU w base p.1 p.2.1 p.2.2 x.2 := h.2.2.1 (x, p) (by simp)
  have hr : w'.ownsRow base 73 2 (.slice (some ⟨g, 0, none⟩) n c) n (segsC (L ++ [(x, p)])) := own_own h.2.1 hp.2.1 (by decide) hg
  obtain ⟨hs, hgs⟩ := hr.stored (L.length * 2 + 1) (.slice A2 n2 c2)
  have hpw := List.pairwise_append.1 h.2.2.2
  refine ⟨by rw [h.1]; simp, ?_, fun z hz => ?_, List.pairwise_append.2 ⟨hpw.1, List.pairwise_singleton _ _, fun z hz u hu => ?_⟩⟩
  · have e : (segsC (L ++ [(x, p)])).set (L.length * 2 + 1) (.slice A2 n2 c2) = segsC (L ++ [((x.1, x.2 ++ ys), (A2, n2, c2))]) := by
      rw [segsC_app, segsC_app, segsC_one, segsC_one, List.set_append_right _ _ (by rw [segsC_len]; omega), segsC_len, show L.length * 2 + 1 - L.length * 2 = 1 by omega]
      rfl
    rw [← e]
    exact hs
  · rcases List.mem_append.1 hz with hz | hz
    · have key := h.2.2.1 z (List.mem_append.2 (.inl hz))
      have hne := hpw.2.2 z hz (x, p) (by simp)
      have k2 : w'.ownsRow base 33 1 (.slice z.2.1 z.2.2.1 z.2.2.2) z.2.2.1 (un z.1.2) := key.2.1.kept hg (by
        rcases hb : Value.ownBlock (.slice z.2.1 z.2.2.1 z.2.2.2) with _ | b
        · exact .inl rfl
        · exact .inr (fun e => hne b hb e.symm))
      exact ⟨key.1, own_own k2 hr (by decide) hgs, key.2.2⟩
    · simp at hz
      subst hz
      exact ⟨ho.1, own_own ho.2.1 hr (by decide) hgs, ho.2.2⟩
  · simp at hu
    subst hu
    intro b hb e
    have key := h.2.2.1 z (List.mem_append.2 (.inl hz))
    have hlt := (key.2.1.lt b hb).2
    rcases hat with e1 | e1
    · exact hpw.2.2 z hz (x, p) (by simp) b hb (e1.symm.trans e)
    · rw [show Hd.v (A2, n2, c2) = .slice A2 n2 c2 from rfl, e1] at e
      injection e with e
      omega
/-- What is fresh lies apart. -/
theorem OP.apt (h : OP w base A n c L) {y : Seg × Hd} {base' : Nat} {l : List Int} (hy : OU w' base' y.2.1 y.2.2.1 y.2.2.2 l) (hb : w.heap.size ≤ base') : ∀ z ∈ L, Apt z y := by
  intro z hz b hzb hyb
  have h1 := ((h.2.2.1 z hz).2.1.lt b hzb).2
  have h2 := (hy.2.1.lt b hyb).1
  omega
end
theorem NF.un {w : World} {S : Nat → Prop} {A : Option Addr} {n : Nat} {l : List Int} (h : NF w S A n l) : n = l.length := h.1
/-- A path that is handed back. -/
def RetP (w : World) (l : List Seg) (e : Ending) (w' : World) : Prop := ∃ (A : Option Addr) (n c : Nat) (L : List (Seg × Hd)), e = .returned (.slice A n c) ∧ OP w' w.heap.size A n c L ∧ L.map (·.1) = l ∧ Below w.heap.size w w'
end Go.Proofs.YtlpkngjeihoknaaDoor
