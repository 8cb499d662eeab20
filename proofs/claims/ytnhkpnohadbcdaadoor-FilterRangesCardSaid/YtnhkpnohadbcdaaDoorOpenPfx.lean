/- A prefix by value, opened. No conditions. -/
import Derived.Test.YtnhkpnohadbcdaaDoorOpen
namespace Go.Proofs.YtnhkpnohadbcdaaDoor
open Go.ChangeShapes Go.WideShapes Go.RowKit Go.Deep Go.Joins
section
variable {H : Type} {enc : TypeId × Value → H} {W : World} {r : Reach} {base : Nat} {v : Value} {d : DataW H} {p : List MemPlace}
set_option maxRecDepth 100000 in
theorem open_pfx (hv : Value.okWide Tryd.prog W r base 24 v) (h : DataW.Trod enc Tryd.prog W 0 (fun _ => true) true 24 v d p) :
    ∃ (a : Nat) (n : Int), v = .agg #[.int .u32 a, .int .i64 n] ∧ a < 4294967296 ∧ (Lit.int .i64 n).wf = true := by
  have k0 : Tryd.prog.cellsOf 24 = 2 := by kernel_rfl
  have k1 : Tryd.prog.cellsOf 22 = 1 := by kernel_rfl
  have k2 : Tryd.prog.cellsOf 3 = 1 := by kernel_rfl
  obtain ⟨cs, rfl, hsz⟩ := okWide_struct Tryd.underlying24 hv
  obtain ⟨c0, c1, rfl⟩ : ∃ c0 c1, cs = #[c0, c1] := by
    obtain ⟨l⟩ := cs
    match l, hsz.trans k0 with
    | [c0, c1], _ => exact ⟨c0, c1, rfl⟩
  obtain ⟨fuel, hf⟩ := h
  obtain ⟨y0, y1, n, _, _, h0, h1⟩ := trod_struct2 Tryd.underlying24 hf
  simp [k1, k2, Value.cells] at h0 h1
  obtain ⟨a, e0, _, wa⟩ := DataW.trod_int Tryd.underlying22 h0
  obtain ⟨b, e1, _, wb⟩ := DataW.trod_int Tryd.underlying3 h1
  simp only [List.cons.injEq, and_true] at e0 e1
  subst e0 e1
  have h2 : 0 ≤ a ∧ a ≤ 4294967295 := by simpa [Lit.wf, IntKind.min, IntKind.max, IntKind.signed, IntKind.bits] using wa
  obtain ⟨a, rfl⟩ := Int.eq_ofNat_of_zero_le h2.1
  exact ⟨a, b, rfl, by omega, wb⟩
end
end Go.Proofs.YtnhkpnohadbcdaaDoor
