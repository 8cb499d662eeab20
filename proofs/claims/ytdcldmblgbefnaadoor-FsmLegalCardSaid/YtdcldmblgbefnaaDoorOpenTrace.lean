/- A trace by value, opened. No conditions. -/
import Derived.Test.YtdcldmblgbefnaaDoorOpen
namespace Go.Proofs.YtdcldmblgbefnaaDoor
open Go.ChangeShapes Go.WideShapes Go.RowKit Go.Deep Go.Joins
theorem array7 {α : Type} {cs : Array α} (h : cs.size = 7) : ∃ c0 c1 c2 c3 c4 c5 c6, cs = #[c0, c1, c2, c3, c4, c5, c6] := by
  obtain ⟨l⟩ := cs
  match l, h with
  | [c0, c1, c2, c3, c4, c5, c6], _ => exact ⟨c0, c1, c2, c3, c4, c5, c6, rfl⟩
section
variable {H : Type} {enc : TypeId × Value → H} {W : World} {r : Reach} {base : Nat} {v : Value} {d : DataW H} {p : List MemPlace}
set_option maxRecDepth 100000 in
theorem fault_cells {n : Nat} {c0 c1 c2 : Value} {x : DataW H × List MemPlace} (h : DataW.trod enc Tryd.prog W 0 (fun _ => true) true n 29 [c0, c1, c2] = some x) :
    ∃ (a b : Int) (A : Option Addr) (n c : Nat) (l : List UInt8), c0 = .int .i64 a ∧ c1 = .int .i64 b ∧ c2 = .slice A n c ∧ (Lit.int .i64 a).wf = true ∧ (Lit.int .i64 b).wf = true ∧ BS W W.heap.size A n l ∧ n ≤ c ∧ c ≤ maxLen := by
  obtain ⟨y0, y1, y2, n, _, _, h0, h1, h2⟩ := trod_struct3 Tryd.underlying29 h
  obtain ⟨a, e0, _, wa⟩ := DataW.trod_int Tryd.underlying3 h0
  obtain ⟨b, e1, _, wb⟩ := DataW.trod_int Tryd.underlying3 h1
  have k1 : Tryd.prog.cellsOf 3 = 1 := by kernel_rfl
  have k2 : Tryd.prog.cellsOf 27 = 1 := by kernel_rfl
  simp [k1] at e0 e1
  simp [k2] at h2
  subst e0 e1
  rcases DataW.trod_slice Tryd.underlying27 h2 with ⟨hcs, _⟩ | ⟨A, len, cap, _, _, _, _, hcs, _⟩
  · simp only [List.cons.injEq, and_true] at hcs
    subst hcs
    exact ⟨a, b, none, 0, 0, [], rfl, rfl, rfl, wa, wb, BS.none_, Nat.le_refl _, by unfold maxLen; omega⟩
  · simp only [List.cons.injEq, and_true] at hcs
    subst hcs
    obtain ⟨l, hb, hl, hm⟩ := open_bytes_at Tryd.underlying27 Tryd.underlying5 (by kernel_rfl) h2
    exact ⟨a, b, some A, len, cap, l, rfl, rfl, rfl, wa, wb, hb, hl, hm⟩
set_option maxRecDepth 100000 in
theorem open_trace (hv : Value.okWide Tryd.prog W r base 47 v) (h : DataW.Trod enc Tryd.prog W 0 (fun _ => true) true 47 v d p) :
    ∃ (e f t : Int) (S : Option Addr) (sn sc : Nat) (sl : List Int) (a b : Int) (A : Option Addr) (n c : Nat) (l : List UInt8), v = .agg #[.int .i64 e, .int .i64 f, .int .i64 t, .slice S sn sc, .int .i64 a, .int .i64 b, .slice A n c] ∧
      NS .i64 W W.heap.size S sn sl ∧ BS W W.heap.size A n l := by
  have k0 : Tryd.prog.cellsOf 47 = 7 := by kernel_rfl
  have k1 : Tryd.prog.cellsOf 3 = 1 := by kernel_rfl
  have k2 : Tryd.prog.cellsOf 45 = 1 := by kernel_rfl
  have k3 : Tryd.prog.cellsOf 29 = 3 := by kernel_rfl
  obtain ⟨cs, rfl, hsz⟩ := okWide_struct Tryd.underlying47 hv
  obtain ⟨c0, c1, c2, c3, c4, c5, c6, rfl⟩ := array7 (hsz.trans k0)
  obtain ⟨fuel, hf⟩ := h
  obtain ⟨xs, n, _, _, _, hlen, hf⟩ := DataW.trod_struct Tryd.underlying47 hf
  match xs, hlen with
  | [y0, y1, y2, y3, y4], _ =>
    have h0 := hf 0 _ rfl
    have h1 := hf 1 _ rfl
    have h2 := hf 2 _ rfl
    have h3 := hf 3 _ rfl
    have h4 := hf 4 _ rfl
    simp [k1, Value.cells] at h0 h1 h2
    simp [k2, Value.cells] at h3
    simp [k3, Value.cells] at h4
    obtain ⟨e, e0, _, _⟩ := DataW.trod_int Tryd.underlying3 h0
    obtain ⟨f, e1, _, _⟩ := DataW.trod_int Tryd.underlying3 h1
    obtain ⟨t, e2, _, _⟩ := DataW.trod_int Tryd.underlying3 h2
    simp only [List.cons.injEq, and_true] at e0 e1 e2
    subst e0 e1 e2
    obtain ⟨a, b, A, m, c, l, rfl, rfl, rfl, _, _, hb, _, _⟩ := fault_cells h4
    rcases DataW.trod_slice Tryd.underlying45 h3 with ⟨hcs, _⟩ | ⟨S, len, cap, _, _, _, _, hcs, _⟩
    · simp only [List.cons.injEq, and_true] at hcs
      subst hcs
      exact ⟨e, f, t, none, 0, 0, [], a, b, A, m, c, l, rfl, ⟨rfl, Reads.none_, fun n hn => by cases hn⟩, hb⟩
    · simp only [List.cons.injEq, and_true] at hcs
      subst hcs
      obtain ⟨sl, hs, _, _⟩ := open_nums_at Tryd.underlying45 Tryd.underlying3 (by kernel_rfl) h3
      exact ⟨e, f, t, some S, len, cap, sl, a, b, A, m, c, l, rfl, hs, hb⟩
end
end Go.Proofs.YtdcldmblgbefnaaDoor
