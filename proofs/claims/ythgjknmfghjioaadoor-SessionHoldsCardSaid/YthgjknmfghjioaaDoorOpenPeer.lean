/- A side and a peer by value, opened. No conditions. -/
import Derived.Test.YthgjknmfghjioaaDoorOpen
import Derived.Deep.Strs
namespace Go.Proofs.YthgjknmfghjioaaDoor
open Go.ChangeShapes Go.WideShapes Go.RowKit Go.Deep Go.Joins
section
variable {H : Type} {enc : TypeId × Value → H} {W : World} {r : Reach} {base : Nat} {v : Value} {d : DataW H} {p : List MemPlace}
set_option maxRecDepth 100000 in
theorem open_side (hv : Value.okWide Tryd.prog W r base 24 v) (h : DataW.Trod enc Tryd.prog W 0 (fun _ => true) true 24 v d p) :
    ∃ (a i x : Nat) (ho : Int), v = .agg #[.int .u32 a, .int .u32 i, .int .u32 x, .int .i64 ho] ∧ a < 4294967296 ∧ i < 4294967296 ∧ (Lit.int .i64 ho).wf = true := by
  have k0 : Tryd.prog.cellsOf 24 = 4 := by kernel_rfl
  have k1 : Tryd.prog.cellsOf 3 = 1 := by kernel_rfl
  have k2 : Tryd.prog.cellsOf 22 = 1 := by kernel_rfl
  obtain ⟨cs, rfl, hsz⟩ := okWide_struct Tryd.underlying24 hv
  obtain ⟨c0, c1, c2, c3, rfl⟩ : ∃ c0 c1 c2 c3, cs = #[c0, c1, c2, c3] := by
    obtain ⟨l⟩ := cs
    match l, hsz.trans k0 with
    | [c0, c1, c2, c3], _ => exact ⟨c0, c1, c2, c3, rfl⟩
  obtain ⟨fuel, hf⟩ := h
  obtain ⟨xs, n, _, _, _, hlen, hf⟩ := DataW.trod_struct Tryd.underlying24 hf
  match xs, hlen with
  | [y0, y1, y2, y3], _ =>
    have h0 := hf 0 _ rfl
    have h1 := hf 1 _ rfl
    have h2 := hf 2 _ rfl
    have h3 := hf 3 _ rfl
    simp [k2, Value.cells] at h0 h1 h2
    simp [k1, Value.cells] at h3
    obtain ⟨a, e0, _, wa⟩ := DataW.trod_int Tryd.underlying22 h0
    obtain ⟨i, e1, _, wi⟩ := DataW.trod_int Tryd.underlying22 h1
    obtain ⟨x, e2, _, wx⟩ := DataW.trod_int Tryd.underlying22 h2
    obtain ⟨ho, e3, _, wh⟩ := DataW.trod_int Tryd.underlying3 h3
    simp only [List.cons.injEq, and_true] at e0 e1 e2 e3
    subst e0 e1 e2 e3
    have ha : 0 ≤ a ∧ a ≤ 4294967295 := by simpa [Lit.wf, IntKind.min, IntKind.max, IntKind.signed, IntKind.bits] using wa
    have hi : 0 ≤ i ∧ i ≤ 4294967295 := by simpa [Lit.wf, IntKind.min, IntKind.max, IntKind.signed, IntKind.bits] using wi
    have hx : 0 ≤ x ∧ x ≤ 4294967295 := by simpa [Lit.wf, IntKind.min, IntKind.max, IntKind.signed, IntKind.bits] using wx
    obtain ⟨a, rfl⟩ := Int.eq_ofNat_of_zero_le ha.1
    obtain ⟨i, rfl⟩ := Int.eq_ofNat_of_zero_le hi.1
    obtain ⟨x, rfl⟩ := Int.eq_ofNat_of_zero_le hx.1
    exact ⟨a, i, x, ho, rfl, by omega, by omega, wh⟩
theorem slice_of {P : Program} {t e : TypeId} {fuel : Nat} {c : Value} {x : DataW H × List MemPlace} (ht : P.underlying t = some (.slice e)) (h : DataW.trod enc P W 0 (fun _ => true) true fuel t [c] = some x) :
    ∃ (A : Option Addr) (n k : Nat), c = .slice A n k := by
  rcases DataW.trod_slice ht h with ⟨hcs, _⟩ | ⟨A, len, cap, _, _, _, _, hcs, _⟩
  · simp only [List.cons.injEq, and_true] at hcs
    exact ⟨none, 0, 0, hcs⟩
  · simp only [List.cons.injEq, and_true] at hcs
    exact ⟨some A, len, cap, hcs⟩
set_option maxRecDepth 100000 in
theorem open_peer (hv : Value.okWide Tryd.prog W r base 27 v) (h : DataW.Trod enc Tryd.prog W 0 (fun _ => true) true 27 v d p) :
    ∃ (a : Nat) (x m : Int) (A : Option Addr) (n c : Nat) (B : Option Addr) (k b : Nat), v = .agg #[.int .u32 a, .int .u32 x, .int .i64 m, .slice A n c, .slice B k b] ∧ a < 4294967296 := by
  have k0 : Tryd.prog.cellsOf 27 = 5 := by kernel_rfl
  have k1 : Tryd.prog.cellsOf 3 = 1 := by kernel_rfl
  have k2 : Tryd.prog.cellsOf 22 = 1 := by kernel_rfl
  have k3 : Tryd.prog.cellsOf 25 = 1 := by kernel_rfl
  obtain ⟨cs, rfl, hsz⟩ := okWide_struct Tryd.underlying27 hv
  obtain ⟨c0, c1, c2, c3, c4, rfl⟩ : ∃ c0 c1 c2 c3 c4, cs = #[c0, c1, c2, c3, c4] := by
    obtain ⟨l⟩ := cs
    match l, hsz.trans k0 with
    | [c0, c1, c2, c3, c4], _ => exact ⟨c0, c1, c2, c3, c4, rfl⟩
  obtain ⟨fuel, hf⟩ := h
  obtain ⟨xs, n, _, _, _, hlen, hf⟩ := DataW.trod_struct Tryd.underlying27 hf
  match xs, hlen with
  | [y0, y1, y2, y3, y4], _ =>
    have h0 := hf 0 _ rfl
    have h1 := hf 1 _ rfl
    have h2 := hf 2 _ rfl
    have h3 := hf 3 _ rfl
    have h4 := hf 4 _ rfl
    simp [k2, Value.cells] at h0 h1
    simp [k1, Value.cells] at h2
    simp [k3, Value.cells] at h3 h4
    obtain ⟨a, e0, _, wa⟩ := DataW.trod_int Tryd.underlying22 h0
    obtain ⟨x, e1, _, _⟩ := DataW.trod_int Tryd.underlying22 h1
    obtain ⟨m, e2, _, _⟩ := DataW.trod_int Tryd.underlying3 h2
    obtain ⟨A, n, c, rfl⟩ := slice_of Tryd.underlying25 h3
    obtain ⟨B, k, b, rfl⟩ := slice_of Tryd.underlying25 h4
    simp only [List.cons.injEq, and_true] at e0 e1 e2
    subst e0 e1 e2
    have ha : 0 ≤ a ∧ a ≤ 4294967295 := by simpa [Lit.wf, IntKind.min, IntKind.max, IntKind.signed, IntKind.bits] using wa
    obtain ⟨a, rfl⟩ := Int.eq_ofNat_of_zero_le ha.1
    exact ⟨a, x, m, A, n, c, B, k, b, rfl, by omega⟩
end
end Go.Proofs.YthgjknmfghjioaaDoor
