/- Numbers of the call's own; slices.Equal of numbers and of bytes. No conditions but sizes. -/
import Derived.Test.YthgjknmfghjioaaDoorProg
import Derived.WalkKit
import Derived.WalkSpells
import Derived.WalkLawsBesides
import Derived.Outline
import Derived.Deep.QuietTactic
import Derived.BigQuiet
import Derived.Handy
import Derived.Lib.Hide
import Derived.Test.YthgjknmfghjioaaDoorBase
import Derived.Test.YthgjknmfghjioaaDoorReaderTwo
namespace Go.Proofs.YthgjknmfghjioaaDoor
open Go.RowKit
theorem i64info : (Tryd.prog.info? 3).map (fun i => (i.zero, i.size, i.bytes)) = some (some (.int .i64 0), 1, 8) := by kernel_rfl
def iv (l : List Int) : List Value := l.map (Value.int .i64)
theorem iv_length (l : List Int) : (iv l).length = l.length := by simp [iv]
theorem iv_append (l l' : List Int) : iv (l ++ l') = iv l ++ iv l' := by simp [iv]
theorem iv_one (l : List Int) : ∀ u ∈ iv l, u.oneCell' = true := by
  intro u hu
  obtain ⟨x, _, rfl⟩ := List.mem_map.1 hu
  rfl
/-- Numbers of the call's own. -/
def OI (w : World) (base : Nat) (A : Option Addr) (n c : Nat) (l : List Int) : Prop := n = l.length ∧ w.ownsRow base 3 1 (.slice A n c) n (iv l)
section
variable {w w' : World} {base n c : Nat} {A : Option Addr} {l : List Int}
theorem OI.nil_ : OI w base none 0 0 [] := ⟨rfl, World.ownsRow_nil _ _ _ _⟩
theorem OI.alloc (h : OI w base A n c l) (o : Obj) : OI (w.alloc o) base A n c l := ⟨h.1, h.2.alloc o⟩
theorem OI.drew (h : OI w base A n c l) : OI w.drew base A n c l := ⟨h.1, h.2.drew⟩
theorem OI.reads (h : OI w base A n c l) : Reads w w.heap.size 1 A n (iv l) := Reads.of_own h.2
theorem OI.below (h : OI w base A n c l) (hb : Below w.heap.size w w') : OI w' base A n c l := by
  refine ⟨h.1, h.2.1, ?_⟩
  rcases h.2.2 with h2 | ⟨g, cap, cur, hv, hg, hh, r⟩
  · exact .inl h2
  · have hlt : g < w.heap.size := by
      rcases Nat.lt_or_ge g w.heap.size with hlt | hge
      · exact hlt
      · rw [Array.getElem?_eq_none hge] at hh; cases hh
    exact .inr ⟨g, cap, cur, hv, hg, (hb.block g hlt).trans hh, r⟩
end
theorem Reads.oneI (w : World) (T : Nat) (e : Int) : Reads (w.alloc (.cells #[.int .i64 e] T)) (w.heap.size + 1) 1 (some ⟨w.heap.size, 0, none⟩) 1 (iv [e]) := by
  refine ⟨rfl, fun _ => ⟨_, rfl, by simp, fun j u hu => ?_⟩⟩
  match j, hu with
  | 0, hu =>
    simp only [iv, List.map_cons, List.map_nil, List.getElem?_cons_zero, Option.some.injEq] at hu
    subst hu
    exact (Blk.new w T #[.int .i64 e]).cell 0
theorem Reads.oneI' (w : World) (T : Nat) (e : Int) {g : Nat} (hg : g = w.heap.size) : Reads (w.alloc (.cells #[.int .i64 e] T)) (g + 1) 1 (some ⟨g, 0, none⟩) 1 (iv [e]) := by
  subst hg
  exact Reads.oneI w T e
theorem wpl_appI {w : World} {ops : Array Oper} {rest : List Oper} {o : Oper} {a : Act} {Q : Exit → Act → World → Prop} (hgd : o.guard = none) (s x : Operand)
    (ho : o.op = .call { callee := .builtin .append, args := #[s, x], argTypes := #[33, 33] })
    (base : Nat) (A : Option Addr) (n c : Nat) (l : List Int) (hs : a.eval s = .slice A n c) (hown : OI w base A n c l)
    (B : Nat) (A' : Option Addr) (m c' : Nat) (l' : List Int) (hx : a.eval x = .slice A' m c') (hr : Reads w B 1 A' m (iv l'))
    (hlen : l.length + l'.length ≤ 17592186044416) (hbase : base ≤ w.heap.size)
    (h : ∀ (A2 : Option Addr) (n2 c2 : Nat) (w' : World), OI w' base A2 n2 c2 (l ++ l') → Below base w w' → wpList Tryd.prog ops Q rest (a.put o.dst (.slice A2 n2 c2)) w') : wpList Tryd.prog ops Q (o :: rest) a w := by
  obtain ⟨i, hi, hz, h1, h2⟩ : ∃ i, Tryd.prog.info? 3 = some i ∧ i.zero = some (.int .i64 0) ∧ i.size = 1 ∧ i.bytes = 8 := by
    have := i64info
    simp only [Option.map_eq_some_iff, Prod.mk.injEq] at this
    exact this
  have e1 := hown.1
  have e2 : m = l'.length := by have := hr.1; rw [iv_length] at this; omega
  refine wpList_append_any w hgd s x 33 ho base 3 i (.int .i64 0) 1 8 Tryd.underlying33 hi hz h1 h2 rfl (by omega) (.slice A n c) n (iv l) hs hown.2 B A' m c' (iv l') hx hr (iv_one l') (by unfold maxLen; omega) (by omega) hbase ?_
  intro v' w' hown' hg hat
  have hlen' : n + m = (l ++ l').length := by rw [List.length_append]; omega
  have hform : ∃ A2 c2, v' = .slice A2 (n + m) c2 := by
    rcases hown'.2 with ⟨rfl, hnil⟩ | ⟨g, cap, cur, hv, _⟩
    · exact ⟨none, 0, by rw [hnil]⟩
    · exact ⟨_, _, hv⟩
  obtain ⟨A2, c2, rfl⟩ := hform
  refine h A2 (n + m) c2 w' ⟨hlen', by rw [iv_append]; exact hown'⟩ ((Below.refl base w).grown hg hbase (fun k hk => ?_))
  rcases hown.2.2 with ⟨hv, _⟩ | ⟨g, cap, cur, hv, hgb, _⟩
  · rw [hv] at hk; simp [Value.ownBlock] at hk
  · rw [hv] at hk; simp [Value.ownBlock] at hk; omega
/-- Numbers that read, number j of them. -/
theorem Reads.formI {w : World} {B n : Nat} {A : Option Addr} {l : List Int} (h : Reads w B 1 A n (iv l)) {j : Nat} (hj : j < n) : ∃ b off, A = some ⟨b, off, none⟩ ∧ b < B ∧ w.cell? ⟨b, off + j, none⟩ = some (.int .i64 (l[j]?.getD 0)) := by
  have hn : n = l.length := by have := h.1; rw [iv_length] at this; omega
  obtain ⟨ad, u, rfl, hb, hu, hc⟩ := h.at_ hj
  obtain ⟨ad', u0, e, _, hu0, hc0⟩ := h.at_ (k := 0) (by omega)
  injection e with e
  subst e
  have hs : ad.spot = none := by
    have := World.cell?_spot hc0
    simpa [Addr.add] using this
  obtain ⟨b, off, spot⟩ := ad
  simp only at hs
  subst hs
  refine ⟨b, off, rfl, hb, ?_⟩
  have hj' : j < l.length := by omega
  have e2 : u = .int .i64 (l[j]?.getD 0) := by
    rw [iv, List.getElem?_map, List.getElem?_eq_getElem hj'] at hu
    rw [List.getElem?_eq_getElem hj']
    simpa using hu.symm
  rw [← e2, ← hc]
  congr 1
  unfold Addr.add
  split <;> simp_all
end Go.Proofs.YthgjknmfghjioaaDoor
