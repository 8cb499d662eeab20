/- An OPEN, a side and two numbers by value, opened. No conditions. -/
import Derived.Test.YtnhkpnohadbcdaaOpen
import Derived.Test.YtnhkpnohadbcdaaOpnA
import Derived.Deep.Strs
namespace Go.Proofs.Ytnhkpnohadbcdaa
open Go.ChangeShapes Go.WideShapes Go.RowKit Go.Deep Go.Joins
theorem pick_list {α : Type} {p : Nat → α → Prop} : ∀ (n : Nat), (∀ i, i < n → ∃ a, p i a) → ∃ l : List α, l.length = n ∧ ∀ i a, l[i]? = some a → p i a
  | 0, _ => ⟨[], rfl, fun i a h => by simp at h⟩
  | n + 1, h => by
    obtain ⟨l, hl, hp⟩ := pick_list n (fun i hi => h i (by omega))
    obtain ⟨a, ha⟩ := h n (by omega)
    refine ⟨l ++ [a], by simp [hl], fun i x hx => ?_⟩
    rcases Nat.lt_or_ge i l.length with hi | hi
    · rw [List.getElem?_append_left hi] at hx
      exact hp i x hx
    · have hi2 : i = l.length := by
        have := (List.getElem?_eq_some_iff.1 hx).1
        simp at this
        omega
      subst hi2
      rw [List.getElem?_append_right (Nat.le_refl _)] at hx
      simp at hx
      subst hx
      rw [hl]
      exact ha
section
variable {H : Type} {enc : TypeId × Value → H} {P : Program} {W : World} {r : Reach} {base : Nat} {t e : TypeId} {v : Value} {d : DataW H} {p : List MemPlace}
/-- A slice of values, each of some cells, opened. -/
theorem open_rows_at {α : Type} {R : Rep α} {size fuel : Nat} {A : Option Addr} {len cap : Nat} {x : DataW H × List MemPlace} (ht : P.underlying t = some (.slice e)) (hc : P.cellsOf e = size) (hs : 0 < size)
    (elem : ∀ (n : Nat) (cs : List Value) (x : DataW H × List MemPlace), cs.length = size → DataW.trod enc P W 0 (fun _ => true) true n e cs = some x → ∃ a : α, R W (Lo W) cs a)
    (h : DataW.trod enc P W 0 (fun _ => true) true fuel t [.slice A len cap] = some x) :
    ∃ l : List α, DL R size W (Lo W) A len l ∧ len ≤ cap ∧ cap ≤ maxLen := by
  rcases DataW.trod_slice ht h with ⟨hcs, _⟩ | ⟨a, len', cap', elems, rest, n, _, hcs, _, _, hl, hm, hlen, hel, _, _⟩
  · simp at hcs
    obtain ⟨rfl, rfl, rfl⟩ := hcs
    exact ⟨[], DL.none_, Nat.le_refl _, by unfold maxLen; omega⟩
  · simp at hcs
    obtain ⟨rfl, rfl, rfl⟩ := hcs
    rw [hc] at hel
    have key : ∀ i, i < len → ∃ q : List Value × α, q.1.length = size ∧ R W (Lo W) q.1 q.2 ∧ ∃ (b off : Nat), a = ⟨b, off, none⟩ ∧ b < W.heap.size ∧ ∀ (j : Nat) (u : Value), q.1[j]? = some u → W.cell? ⟨b, off + (i * size + j), none⟩ = some u := by
      intro i hi
      have h1 := hel i hi
      rw [List.getElem?_eq_getElem (by omega), Option.bind_eq_some_iff] at h1
      obtain ⟨cs, hcs, ht⟩ := h1
      obtain ⟨_, hl2, hcell⟩ := World.cells?_some hcs
      obtain ⟨m, hm⟩ := elem _ cs _ hl2 ht
      have hspot : a.spot = none := by
        have h1 := hel 0 (by omega)
        rw [List.getElem?_eq_getElem (by omega), Option.bind_eq_some_iff] at h1
        obtain ⟨cs, hcs, ht⟩ := h1
        obtain ⟨_, hl2, hcell⟩ := World.cells?_some hcs
        have g0 := hcell 0 (by omega)
        rw [List.getElem?_eq_getElem (by omega)] at g0
        have := World.cell?_spot g0
        simpa [Addr.add] using this
      have g0 := hcell 0 (by omega)
      rw [add_of_add, List.getElem?_eq_getElem (by omega)] at g0
      have hlt := lt_of_cell g0
      rw [block_of_add] at hlt
      obtain ⟨b, off, spot⟩ := a
      simp only at hspot
      subst hspot
      refine ⟨(cs, m), hl2, hm, b, off, rfl, hlt, fun j u hu => ?_⟩
      have hj : j < size := by rw [← hl2]; exact (List.getElem?_eq_some_iff.1 hu).1
      have g := hcell j hj
      rw [add_of_add, addr_add] at g
      rw [g]
      exact hu
    obtain ⟨qs, hql, hqs⟩ := pick_list len key
    have hsz : ∀ cs ∈ qs.map (·.1), cs.length = size := by
      intro cs hcs
      obtain ⟨q, hq, rfl⟩ := List.mem_map.1 hcs
      obtain ⟨i, hi⟩ := List.getElem?_of_mem hq
      exact (hqs i q hi).1
    refine ⟨qs.map (·.2), ⟨qs.map (·.1), by simp, by simp [hql], ⟨by rw [flat_len hsz]; simp [hql], fun hn => ?_⟩, fun i cs x h1 h2 => ?_, hsz⟩, hl, hm⟩
    · obtain ⟨q, hq⟩ : ∃ q, qs[0]? = some q := ⟨_, List.getElem?_eq_getElem (by omega)⟩
      obtain ⟨_, _, b, off, rfl, hlt, _⟩ := hqs 0 q hq
      refine ⟨b, off, rfl, hlt, fun j u hu => ?_⟩
      have hj : j < len * size := by
        have := (List.getElem?_eq_some_iff.1 hu).1
        rw [flat_len hsz] at this
        simpa [hql] using this
      have hi : j / size < len := Nat.div_lt_of_lt_mul (by rw [Nat.mul_comm]; exact hj)
      obtain ⟨q2, hq2⟩ : ∃ q, qs[j / size]? = some q := ⟨_, List.getElem?_eq_getElem (by omega)⟩
      obtain ⟨_, _, b2, off2, e2, _, hc2⟩ := hqs (j / size) q2 hq2
      injection e2 with e3 e4
      subst e3 e4
      have hm2 : j % size < size := Nat.mod_lt _ hs
      have hdm : j / size * size + j % size = j := by rw [Nat.mul_comm]; exact Nat.div_add_mod j size
      have hf := flat_at hsz (i := j / size) (j := j % size) (cs := q2.1) (by simp [hq2]) hm2
      rw [hdm, hu] at hf
      have := hc2 (j % size) u hf.symm
      rwa [hdm] at this
    · rw [List.getElem?_map, Option.map_eq_some_iff] at h1 h2
      obtain ⟨q, hq, rfl⟩ := h1
      obtain ⟨q', hq', rfl⟩ := h2
      rw [hq] at hq'
      injection hq' with hq'
      subst hq'
      exact (hqs i q hq).2.1
end
section
variable {H : Type} {enc : TypeId × Value → H} {W : World} {r : Reach} {base : Nat} {v : Value} {d : DataW H} {p : List MemPlace}
set_option maxRecDepth 100000 in
theorem cap_of_cells (n : Nat) (cs : List Value) (x : DataW H × List MemPlace) (hl : cs.length = 2) (h : DataW.trod enc Try.prog W 0 (fun _ => true) true n 54 cs = some x) : ∃ a : Cap, rCap W (Lo W) cs a := by
  match cs, hl with
  | [c0, c1], _ =>
    obtain ⟨y0, y1, n, _, _, h0, h1⟩ := trod_struct2 Try.underlying54 h
    obtain ⟨a, e0, _, _⟩ := DataW.trod_int Try.underlying3 h0
    have k1 : Try.prog.cellsOf 3 = 1 := by kernel_rfl
    have k2 : Try.prog.cellsOf 28 = 1 := by kernel_rfl
    simp [k1] at e0
    simp [k2] at h1
    subst e0
    rcases DataW.trod_slice Try.underlying28 h1 with ⟨hcs, _⟩ | ⟨A, len, cap, _, _, _, _, hcs, _⟩
    · simp only [List.cons.injEq, and_true] at hcs
      subst hcs
      exact ⟨(a, []), none, 0, 0, rfl, BF.of (B := 0) BS.none_ (fun b hb => absurd hb (by omega)), Nat.le_refl _⟩
    · simp only [List.cons.injEq, and_true] at hcs
      subst hcs
      obtain ⟨l, hb, hl, _⟩ := open_bytes_at Try.underlying28 Try.underlying5 (by kernel_rfl) h1
      exact ⟨(a, l), some A, len, cap, rfl, BF.of hb (fun b hb => hb), hl⟩
set_option maxRecDepth 100000 in
theorem open_opn (hv : Value.okWide Try.prog W r base 25 v) (h : DataW.Trod enc Try.prog W 0 (fun _ => true) true 25 v d p) :
    ∃ (ve a ho : Int) (i : Nat) (A : Option Addr) (n c : Nat) (l : List Cap), v = .agg #[.int .i64 ve, .int .i64 a, .int .i64 ho, .int .u32 i, .slice A n c] ∧ i < 4294967296 ∧ DL rCap 2 W (Lo W) A n l ∧ n ≤ c ∧ c ≤ maxLen := by
  have k0 : Try.prog.cellsOf 25 = 5 := by kernel_rfl
  have k1 : Try.prog.cellsOf 3 = 1 := by kernel_rfl
  have k2 : Try.prog.cellsOf 22 = 1 := by kernel_rfl
  have k3 : Try.prog.cellsOf 23 = 1 := by kernel_rfl
  obtain ⟨cs, rfl, hsz⟩ := okWide_struct Try.underlying25 hv
  obtain ⟨c0, c1, c2, c3, c4, rfl⟩ : ∃ c0 c1 c2 c3 c4, cs = #[c0, c1, c2, c3, c4] := by
    obtain ⟨l⟩ := cs
    match l, hsz.trans k0 with
    | [c0, c1, c2, c3, c4], _ => exact ⟨c0, c1, c2, c3, c4, rfl⟩
  obtain ⟨fuel, hf⟩ := h
  obtain ⟨xs, n, _, _, _, hlen, hf⟩ := DataW.trod_struct Try.underlying25 hf
  match xs, hlen with
  | [y0, y1, y2, y3, y4], _ =>
    have h0 := hf 0 _ rfl
    have h1 := hf 1 _ rfl
    have h2 := hf 2 _ rfl
    have h3 := hf 3 _ rfl
    have h4 := hf 4 _ rfl
    simp [k1, Value.cells] at h0 h1 h2
    simp [k2, Value.cells] at h3
    simp [k3, Value.cells] at h4
    obtain ⟨ve, e0, _, _⟩ := DataW.trod_int Try.underlying3 h0
    obtain ⟨a, e1, _, _⟩ := DataW.trod_int Try.underlying3 h1
    obtain ⟨ho, e2, _, _⟩ := DataW.trod_int Try.underlying3 h2
    obtain ⟨i, e3, _, wi⟩ := DataW.trod_int Try.underlying22 h3
    simp only [List.cons.injEq, and_true] at e0 e1 e2 e3
    subst e0 e1 e2 e3
    have hi : 0 ≤ i ∧ i ≤ 4294967295 := by simpa [Lit.wf, IntKind.min, IntKind.max, IntKind.signed, IntKind.bits] using wi
    obtain ⟨i, rfl⟩ := Int.eq_ofNat_of_zero_le hi.1
    have kc : Try.prog.cellsOf 54 = 2 := by kernel_rfl
    rcases DataW.trod_slice Try.underlying23 h4 with ⟨hcs, _⟩ | ⟨A, len, cap, _, _, _, _, hcs, _⟩
    · simp only [List.cons.injEq, and_true] at hcs
      subst hcs
      exact ⟨ve, a, ho, i, none, 0, 0, [], rfl, by omega, DL.none_, Nat.le_refl _, by unfold maxLen; omega⟩
    · simp only [List.cons.injEq, and_true] at hcs
      subst hcs
      obtain ⟨l, hb, hl, hm⟩ := open_rows_at Try.underlying23 kc (by omega) cap_of_cells h4
      exact ⟨ve, a, ho, i, some A, len, cap, l, rfl, by omega, hb, hl, hm⟩
set_option maxRecDepth 100000 in
theorem open_local (hv : Value.okWide Try.prog W r base 48 v) (h : DataW.Trod enc Try.prog W 0 (fun _ => true) true 48 v d p) :
    ∃ (a i x : Nat) (ho : Int), v = .agg #[.int .u32 a, .int .u32 i, .int .u32 x, .int .i64 ho] ∧ a < 4294967296 ∧ i < 4294967296 ∧ (Lit.int .i64 ho).wf = true := by
  have k0 : Try.prog.cellsOf 48 = 4 := by kernel_rfl
  have k1 : Try.prog.cellsOf 3 = 1 := by kernel_rfl
  have k2 : Try.prog.cellsOf 22 = 1 := by kernel_rfl
  obtain ⟨cs, rfl, hsz⟩ := okWide_struct Try.underlying48 hv
  obtain ⟨c0, c1, c2, c3, rfl⟩ : ∃ c0 c1 c2 c3, cs = #[c0, c1, c2, c3] := by
    obtain ⟨l⟩ := cs
    match l, hsz.trans k0 with
    | [c0, c1, c2, c3], _ => exact ⟨c0, c1, c2, c3, rfl⟩
  obtain ⟨fuel, hf⟩ := h
  obtain ⟨xs, n, _, _, _, hlen, hf⟩ := DataW.trod_struct Try.underlying48 hf
  match xs, hlen with
  | [y0, y1, y2, y3], _ =>
    have h0 := hf 0 _ rfl
    have h1 := hf 1 _ rfl
    have h2 := hf 2 _ rfl
    have h3 := hf 3 _ rfl
    simp [k2, Value.cells] at h0 h1 h2
    simp [k1, Value.cells] at h3
    obtain ⟨a, e0, _, wa⟩ := DataW.trod_int Try.underlying22 h0
    obtain ⟨i, e1, _, wi⟩ := DataW.trod_int Try.underlying22 h1
    obtain ⟨x, e2, _, wx⟩ := DataW.trod_int Try.underlying22 h2
    obtain ⟨ho, e3, _, wh⟩ := DataW.trod_int Try.underlying3 h3
    simp only [List.cons.injEq, and_true] at e0 e1 e2 e3
    subst e0 e1 e2 e3
    have ha : 0 ≤ a ∧ a ≤ 4294967295 := by simpa [Lit.wf, IntKind.min, IntKind.max, IntKind.signed, IntKind.bits] using wa
    have hi : 0 ≤ i ∧ i ≤ 4294967295 := by simpa [Lit.wf, IntKind.min, IntKind.max, IntKind.signed, IntKind.bits] using wi
    have hx : 0 ≤ x ∧ x ≤ 4294967295 := by simpa [Lit.wf, IntKind.min, IntKind.max, IntKind.signed, IntKind.bits] using wx
    obtain ⟨a, rfl⟩ := Int.eq_ofNat_of_zero_le ha.1
    obtain ⟨i, rfl⟩ := Int.eq_ofNat_of_zero_le hi.1
    obtain ⟨x, rfl⟩ := Int.eq_ofNat_of_zero_le hx.1
    exact ⟨a, i, x, ho, rfl, by omega, by omega, wh⟩
theorem okWide_arr {P : Program} {t e : TypeId} {n : Nat} (ht : P.underlying t = some (.array n e)) (h : Value.okWide P W r base t v) : ∃ cs, v = .agg cs ∧ cs.size = P.cellsOf t := by
  simp only [Value.okWide, ht] at h
  obtain ⟨cs, h1, h2, _⟩ := h
  exact ⟨cs, h1, h2⟩
set_option maxRecDepth 100000 in
theorem open_two (hv : Value.okWide Try.prog W r base 49 v) (h : DataW.Trod enc Try.prog W 0 (fun _ => true) true 49 v d p) :
    ∃ a b : Int, v = .agg #[.int .i64 a, .int .i64 b] := by
  have k0 : Try.prog.cellsOf 49 = 2 := by kernel_rfl
  have k1 : Try.prog.cellsOf 3 = 1 := by kernel_rfl
  obtain ⟨cs, rfl, hsz⟩ := okWide_arr Try.underlying49 hv
  obtain ⟨c0, c1, rfl⟩ : ∃ c0 c1, cs = #[c0, c1] := by
    obtain ⟨l⟩ := cs
    match l, hsz.trans k0 with
    | [c0, c1], _ => exact ⟨c0, c1, rfl⟩
  obtain ⟨fuel, hf⟩ := h
  obtain ⟨xs, n, _, _, _, hlen, hf⟩ := DataW.trod_array Try.underlying49 hf
  match xs, hlen with
  | [y0, y1], _ =>
    have h0 := hf 0 (by omega)
    have h1 := hf 1 (by omega)
    simp [k1, Value.cells] at h0 h1
    obtain ⟨a, e0, _, _⟩ := DataW.trod_int Try.underlying3 h0
    obtain ⟨b, e1, _, _⟩ := DataW.trod_int Try.underlying3 h1
    simp only [List.cons.injEq, and_true] at e0 e1
    subst e0 e1
    exact ⟨a, b, rfl⟩
end
end Go.Proofs.Ytnhkpnohadbcdaa
