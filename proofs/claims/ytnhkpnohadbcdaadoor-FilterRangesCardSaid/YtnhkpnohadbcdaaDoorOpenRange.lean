/- A range by value, and a slice of ranges, opened. No conditions. -/
import Derived.Test.YtnhkpnohadbcdaaDoorOpen
import Derived.Deep.Strs
namespace Go.Proofs.YtnhkpnohadbcdaaDoor
open Go.ChangeShapes Go.WideShapes Go.RowKit Go.Deep Go.Joins
theorem rows_of {α : Type} {p : Nat → α → Prop} : ∀ (n : Nat), (∀ i, i < n → ∃ a, p i a) → ∃ l : List α, l.length = n ∧ ∀ i a, l[i]? = some a → p i a
  | 0, _ => ⟨[], rfl, fun i a h => by simp at h⟩
  | n + 1, h => by
    obtain ⟨l, hl, hp⟩ := rows_of n (fun i hi => h i (by omega))
    obtain ⟨a, ha⟩ := h n (by omega)
    refine ⟨l ++ [a], by simp [hl], fun i x hx => ?_⟩
    rcases Nat.lt_or_ge i l.length with hi | hi
    · rw [List.getElem?_append_left hi] at hx
      exact hp i x hx
    · have hi2 : i = l.length := by
        have := (List.getElem?_eq_some_iff.1 hx).1
        simp at this
        omega
      subst hi2
      rw [List.getElem?_append_right (Nat.le_refl _)] at hx
      simp at hx
      subst hx
      rw [hl]
      exact ha
/-- A range's numbers. -/
structure Rg where
  a : Nat
  n : Int
  lo : Int
  hi : Int
/-- Ranges that read, wherever they lie. -/
def RR (w : World) (A : Option Addr) (n : Nat) (ms : List Rg) : Prop := n = ms.length ∧ ∀ (j : Nat) (m : Rg), ms[j]? = some m → m.a < 4294967296 ∧ ∃ (b off : Nat), A = some ⟨b, off, none⟩ ∧ b < w.heap.size ∧ w.cell? ⟨b, off + j * 4, none⟩ = some (.int .u32 m.a) ∧ w.cell? ⟨b, off + j * 4 + 1, none⟩ = some (.int .i64 m.n) ∧ w.cell? ⟨b, off + j * 4 + 2, none⟩ = some (.int .i64 m.lo) ∧ w.cell? ⟨b, off + j * 4 + 3, none⟩ = some (.int .i64 m.hi)
section
variable {H : Type} {enc : TypeId × Value → H} {W : World} {r : Reach} {base : Nat} {v : Value} {d : DataW H} {p : List MemPlace}
set_option maxRecDepth 100000 in
theorem range_cells {n : Nat} {c0 c1 c2 c3 : Value} {x : DataW H × List MemPlace} (h : DataW.trod enc Tryd.prog W 0 (fun _ => true) true n 47 [c0, c1, c2, c3] = some x) :
    ∃ (a : Nat) (k lo hi : Int), c0 = .int .u32 a ∧ c1 = .int .i64 k ∧ c2 = .int .i64 lo ∧ c3 = .int .i64 hi ∧ a < 4294967296 := by
  have k0 : Tryd.prog.cellsOf 24 = 2 := by kernel_rfl
  have k1 : Tryd.prog.cellsOf 22 = 1 := by kernel_rfl
  have k2 : Tryd.prog.cellsOf 3 = 1 := by kernel_rfl
  obtain ⟨y0, y1, y2, m, _, _, h0, h1, h2⟩ := trod_struct3 Tryd.underlying47 h
  simp [k0, k2] at h0 h1 h2
  obtain ⟨z0, z1, m', _, _, g0, g1⟩ := trod_struct2 Tryd.underlying24 h0
  simp [k1, k2] at g0 g1
  obtain ⟨a, e0, _, wa⟩ := DataW.trod_int Tryd.underlying22 g0
  obtain ⟨b, e1, _, _⟩ := DataW.trod_int Tryd.underlying3 g1
  obtain ⟨lo, e2, _, _⟩ := DataW.trod_int Tryd.underlying3 h1
  obtain ⟨hi, e3, _, _⟩ := DataW.trod_int Tryd.underlying3 h2
  simp only [List.cons.injEq, and_true] at e0 e1 e2 e3
  subst e0 e1 e2 e3
  have h2 : 0 ≤ a ∧ a ≤ 4294967295 := by simpa [Lit.wf, IntKind.min, IntKind.max, IntKind.signed, IntKind.bits] using wa
  obtain ⟨a, rfl⟩ := Int.eq_ofNat_of_zero_le h2.1
  exact ⟨a, b, lo, hi, rfl, rfl, rfl, rfl, by omega⟩
set_option maxRecDepth 100000 in
theorem open_range (hv : Value.okWide Tryd.prog W r base 47 v) (h : DataW.Trod enc Tryd.prog W 0 (fun _ => true) true 47 v d p) :
    ∃ (a : Nat) (n lo hi : Int), v = .agg #[.int .u32 a, .int .i64 n, .int .i64 lo, .int .i64 hi] ∧ a < 4294967296 := by
  have k0 : Tryd.prog.cellsOf 47 = 4 := by kernel_rfl
  obtain ⟨cs, rfl, hsz⟩ := okWide_struct Tryd.underlying47 hv
  obtain ⟨c0, c1, c2, c3, rfl⟩ : ∃ c0 c1 c2 c3, cs = #[c0, c1, c2, c3] := by
    obtain ⟨l⟩ := cs
    match l, hsz.trans k0 with
    | [c0, c1, c2, c3], _ => exact ⟨c0, c1, c2, c3, rfl⟩
  obtain ⟨fuel, hf⟩ := h
  obtain ⟨a, n, lo, hi, rfl, rfl, rfl, rfl, ha⟩ := range_cells hf
  exact ⟨a, n, lo, hi, rfl, ha⟩
set_option maxRecDepth 100000 in
theorem open_ranges (hv : Value.okWide Tryd.prog W r base 68 v) (h : DataW.Trod enc Tryd.prog W 0 (fun _ => true) true 68 v d p) :
    ∃ (A : Option Addr) (n c : Nat) (ms : List Rg), v = .slice A n c ∧ RR W A n ms ∧ n ≤ c ∧ c ≤ maxLen := by
  have k2 : Tryd.prog.cellsOf 47 = 4 := by kernel_rfl
  obtain ⟨A, len, cap, rfl⟩ := okWide_slice Tryd.underlying68 hv
  obtain ⟨fuel, hf⟩ := h
  rcases DataW.trod_slice Tryd.underlying68 hf with ⟨hcs, _⟩ | ⟨a, len', cap', elems, rest, n, _, hcs, _, _, hl, hm, hlen, hel, _, _⟩
  · simp [Value.cells] at hcs
    obtain ⟨rfl, rfl, rfl⟩ := hcs
    exact ⟨none, 0, 0, [], rfl, ⟨rfl, fun j m hj => by simp at hj⟩, Nat.le_refl _, by unfold maxLen; omega⟩
  · simp [Value.cells] at hcs
    obtain ⟨rfl, rfl, rfl⟩ := hcs
    rw [k2] at hel
    have spot : 0 < len → a.spot = none := by
      intro hi
      have h1 := hel 0 hi
      rw [List.getElem?_eq_getElem (by omega), Option.bind_eq_some_iff] at h1
      obtain ⟨cs, hcs, ht⟩ := h1
      obtain ⟨_, hl2, hcell⟩ := World.cells?_some hcs
      have g0 := hcell 0 (by omega)
      rw [List.getElem?_eq_getElem (by omega)] at g0
      have := World.cell?_spot g0
      simpa [Addr.add] using this
    have key : ∀ i, i < len → ∃ m : Rg, m.a < 4294967296 ∧ ∃ (b off : Nat), a = ⟨b, off, none⟩ ∧ b < W.heap.size ∧ W.cell? ⟨b, off + i * 4, none⟩ = some (.int .u32 m.a) ∧ W.cell? ⟨b, off + i * 4 + 1, none⟩ = some (.int .i64 m.n) ∧ W.cell? ⟨b, off + i * 4 + 2, none⟩ = some (.int .i64 m.lo) ∧ W.cell? ⟨b, off + i * 4 + 3, none⟩ = some (.int .i64 m.hi) := by
      intro i hi
      have h1 := hel i hi
      rw [List.getElem?_eq_getElem (by omega), Option.bind_eq_some_iff] at h1
      obtain ⟨cs, hcs, ht⟩ := h1
      obtain ⟨_, hl2, hcell⟩ := World.cells?_some hcs
      match cs, hl2 with
      | [c0, c1, c2, c3], _ =>
        obtain ⟨x, k, lo, hi', rfl, rfl, rfl, rfl, ha⟩ := range_cells ht
        have g0 := hcell 0 (by omega)
        have g1 := hcell 1 (by omega)
        have g2 := hcell 2 (by omega)
        have g3 := hcell 3 (by omega)
        rw [add_of_add] at g0 g1 g2 g3
        have hs := spot (by omega)
        rw [List.getElem?_cons_zero] at g0
        rw [List.getElem?_cons_succ, List.getElem?_cons_zero] at g1
        rw [List.getElem?_cons_succ, List.getElem?_cons_succ, List.getElem?_cons_zero] at g2
        rw [List.getElem?_cons_succ, List.getElem?_cons_succ, List.getElem?_cons_succ, List.getElem?_cons_zero] at g3
        obtain ⟨b, off, spot⟩ := a
        simp only at hs
        subst hs
        have hlt := lt_of_cell g0
        rw [block_of_add] at hlt
        refine ⟨⟨x, k, lo, hi'⟩, ha, b, off, rfl, hlt, ?_, ?_, ?_, ?_⟩
        · rw [← g0]
          congr 1
          unfold Addr.add
          split <;> simp_all
        · rw [← g1]
          congr 1
        · rw [← g2]
          congr 1
        · rw [← g3]
          congr 1
    obtain ⟨ms, hml, hms⟩ := rows_of len key
    refine ⟨some a, len, cap, ms, rfl, ⟨hml.symm, fun j m hj => ?_⟩, hl, hm⟩
    obtain ⟨ha, b, off, rfl, h2⟩ := hms j m hj
    exact ⟨ha, b, off, rfl, h2⟩
end
end Go.Proofs.YtnhkpnohadbcdaaDoor
