/- A slice of messages (structs of a number and bytes), opened. No conditions. -/
import Derived.Test.YtdcldmblgbefnaaDoorOpen
import Derived.Test.YtdcldmblgbefnaaDoorMsgs
namespace Go.Proofs.YtdcldmblgbefnaaDoor
open Go.ChangeShapes Go.WideShapes Go.RowKit Go.Deep Go.Joins
theorem list_of {α : Type} {p : Nat → α → Prop} : ∀ (n : Nat), (∀ i, i < n → ∃ a, p i a) → ∃ l : List α, l.length = n ∧ ∀ i a, l[i]? = some a → p i a
  | 0, _ => ⟨[], rfl, fun i a h => by simp at h⟩
  | n + 1, h => by
    obtain ⟨l, hl, hp⟩ := list_of n (fun i hi => h i (by omega))
    obtain ⟨a, ha⟩ := h n (by omega)
    refine ⟨l ++ [a], by simp [hl], fun i x hx => ?_⟩
    rcases Nat.lt_or_ge i l.length with hi | hi
    · rw [List.getElem?_append_left hi] at hx
      exact hp i x hx
    · have hi2 : i = l.length := by
        have := (List.getElem?_eq_some_iff.1 hx).1
        simp at this
        omega
      subst hi2
      rw [List.getElem?_append_right (Nat.le_refl _)] at hx
      simp at hx
      subst hx
      rw [hl]
      exact ha
/-- Messages that read, wherever they lie. -/
def MR (w : World) (A : Option Addr) (n : Nat) (ms : List (Int × List UInt8)) : Prop := n = ms.length ∧ ∀ (j : Nat) (m : Int × List UInt8), ms[j]? = some m → ∃ (b off : Nat) (A' : Option Addr) (n' c' : Nat), A = some ⟨b, off, none⟩ ∧ b < w.heap.size ∧ w.cell? ⟨b, off + j * 2, none⟩ = some (.int .i64 m.1) ∧ w.cell? ⟨b, off + j * 2 + 1, none⟩ = some (.slice A' n' c') ∧ BS w w.heap.size A' n' m.2 ∧ n' ≤ c'
section
variable {H : Type} {enc : TypeId × Value → H} {W : World} {r : Reach} {base : Nat} {v : Value} {d : DataW H} {p : List MemPlace}
set_option maxRecDepth 100000 in
theorem msg_cells {n : Nat} {c0 c1 : Value} {x : DataW H × List MemPlace} (h : DataW.trod enc Tryd.prog W 0 (fun _ => true) true n 89 [c0, c1] = some x) :
    ∃ (a : Int) (A : Option Addr) (n c : Nat) (l : List UInt8), c0 = .int .i64 a ∧ c1 = .slice A n c ∧ BS W W.heap.size A n l ∧ n ≤ c := by
  obtain ⟨y0, y1, n, _, _, h0, h1⟩ := trod_struct2 Tryd.underlying89 h
  obtain ⟨a, e0, _, _⟩ := DataW.trod_int Tryd.underlying3 h0
  have k1 : Tryd.prog.cellsOf 3 = 1 := by kernel_rfl
  have k2 : Tryd.prog.cellsOf 27 = 1 := by kernel_rfl
  simp [k1] at e0
  simp [k2] at h1
  subst e0
  rcases DataW.trod_slice Tryd.underlying27 h1 with ⟨hcs, _⟩ | ⟨A, len, cap, _, _, _, _, hcs, _⟩
  · simp only [List.cons.injEq, and_true] at hcs
    subst hcs
    exact ⟨a, none, 0, 0, [], rfl, rfl, BS.none_, Nat.le_refl _⟩
  · simp only [List.cons.injEq, and_true] at hcs
    subst hcs
    obtain ⟨l, hb, hl, _⟩ := open_bytes_at Tryd.underlying27 Tryd.underlying5 (by kernel_rfl) h1
    exact ⟨a, some A, len, cap, l, rfl, rfl, hb, hl⟩
set_option maxRecDepth 100000 in
theorem open_msgs (hv : Value.okWide Tryd.prog W r base 83 v) (h : DataW.Trod enc Tryd.prog W 0 (fun _ => true) true 83 v d p) :
    ∃ (A : Option Addr) (n c : Nat) (ms : List (Int × List UInt8)), v = .slice A n c ∧ MR W A n ms ∧ n ≤ c ∧ c ≤ maxLen := by
  have k2 : Tryd.prog.cellsOf 89 = 2 := by kernel_rfl
  obtain ⟨A, len, cap, rfl⟩ := okWide_slice Tryd.underlying83 hv
  obtain ⟨fuel, hf⟩ := h
  rcases DataW.trod_slice Tryd.underlying83 hf with ⟨hcs, _⟩ | ⟨a, len', cap', elems, rest, n, _, hcs, _, _, hl, hm, hlen, hel, _, _⟩
  · simp [Value.cells] at hcs
    obtain ⟨rfl, rfl, rfl⟩ := hcs
    exact ⟨none, 0, 0, [], rfl, ⟨rfl, fun j m hj => by simp at hj⟩, Nat.le_refl _, by unfold maxLen; omega⟩
  · simp [Value.cells] at hcs
    obtain ⟨rfl, rfl, rfl⟩ := hcs
    rw [k2] at hel
    have spot : 0 < len → a.spot = none := by
      intro hi
      have h1 := hel 0 hi
      rw [List.getElem?_eq_getElem (by omega), Option.bind_eq_some_iff] at h1
      obtain ⟨cs, hcs, ht⟩ := h1
      obtain ⟨_, hl2, hcell⟩ := World.cells?_some hcs
      have g0 := hcell 0 (by omega)
      rw [List.getElem?_eq_getElem (by omega)] at g0
      have := World.cell?_spot g0
      simpa [Addr.add] using this
    have key : ∀ i, i < len → ∃ m : Int × List UInt8, ∃ (b off : Nat) (A' : Option Addr) (n' c' : Nat), a = ⟨b, off, none⟩ ∧ b < W.heap.size ∧ W.cell? ⟨b, off + i * 2, none⟩ = some (.int .i64 m.1) ∧ W.cell? ⟨b, off + i * 2 + 1, none⟩ = some (.slice A' n' c') ∧ BS W W.heap.size A' n' m.2 ∧ n' ≤ c' := by
      intro i hi
      have h1 := hel i hi
      rw [List.getElem?_eq_getElem (by omega), Option.bind_eq_some_iff] at h1
      obtain ⟨cs, hcs, ht⟩ := h1
      obtain ⟨_, hl2, hcell⟩ := World.cells?_some hcs
      match cs, hl2 with
      | [c0, c1], _ =>
        obtain ⟨K, A', n', c', l, rfl, rfl, hb, hnc⟩ := msg_cells ht
        have g0 := hcell 0 (by omega)
        have g1 := hcell 1 (by omega)
        rw [add_of_add] at g0 g1
        have hs := spot (by omega)
        rw [List.getElem?_cons_zero] at g0
        rw [List.getElem?_cons_succ, List.getElem?_cons_zero] at g1
        obtain ⟨b, off, spot⟩ := a
        simp only at hs
        subst hs
        have hlt := lt_of_cell g0
        rw [block_of_add] at hlt
        refine ⟨(K, l), b, off, A', n', c', rfl, hlt, ?_, ?_, hb, hnc⟩
        · rw [← g0]
          congr 1
          unfold Addr.add
          split <;> simp_all
        · rw [← g1]
          congr 1
    obtain ⟨ms, hml, hms⟩ := list_of len key
    refine ⟨some a, len, cap, ms, rfl, ⟨hml.symm, fun j m hj => ?_⟩, hl, hm⟩
    obtain ⟨b, off, A', n', c', rfl, h2⟩ := hms j m hj
    exact ⟨b, off, A', n', c', rfl, h2⟩
end
end Go.Proofs.YtdcldmblgbefnaaDoor
