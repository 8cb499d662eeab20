/- A fault by value, opened. No conditions. -/
import Derived.Test.YtdcldmblgbefnaaDoorOpen
namespace Go.Proofs.YtdcldmblgbefnaaDoor
open Go.ChangeShapes Go.WideShapes Go.RowKit Go.Deep Go.Joins
section
variable {H : Type} {enc : TypeId × Value → H} {W : World} {r : Reach} {base : Nat} {v : Value} {d : DataW H} {p : List MemPlace}
set_option maxRecDepth 100000 in
theorem open_fault (hv : Value.okWide Tryd.prog W r base 29 v) (h : DataW.Trod enc Tryd.prog W 0 (fun _ => true) true 29 v d p) :
    ∃ (a b : Int) (A : Option Addr) (n c : Nat) (l : List UInt8), v = .agg #[.int .i64 a, .int .i64 b, .slice A n c] ∧ (Lit.int .i64 a).wf = true ∧ (Lit.int .i64 b).wf = true ∧ BS W W.heap.size A n l ∧ n ≤ c ∧ c ≤ maxLen := by
  obtain ⟨v0, v1, v2, y0, y1, y2, n, rfl, _, _, h0, h1, h2⟩ := open_agg3 Tryd.underlying29 (by kernel_rfl) (by kernel_rfl) hv h
  obtain ⟨a, e0, _, wa⟩ := DataW.trod_int Tryd.underlying3 h0
  obtain ⟨b, e1, _, wb⟩ := DataW.trod_int Tryd.underlying3 h1
  simp only [List.cons.injEq, and_true] at e0 e1
  subst e0 e1
  rcases DataW.trod_slice Tryd.underlying27 h2 with ⟨hcs, _⟩ | ⟨A, len, cap, _, _, _, _, hcs, _⟩
  · simp only [List.cons.injEq, and_true] at hcs
    subst hcs
    exact ⟨a, b, none, 0, 0, [], rfl, wa, wb, BS.none_, Nat.le_refl _, by unfold maxLen; omega⟩
  · simp only [List.cons.injEq, and_true] at hcs
    subst hcs
    obtain ⟨l, hb, hl, hm⟩ := open_bytes_at Tryd.underlying27 Tryd.underlying5 (by kernel_rfl) h2
    exact ⟨a, b, some A, len, cap, l, rfl, wa, wb, hb, hl, hm⟩
end
end Go.Proofs.YtdcldmblgbefnaaDoor
