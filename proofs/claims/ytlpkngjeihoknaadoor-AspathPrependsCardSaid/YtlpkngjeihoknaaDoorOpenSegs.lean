/- A path that comes in, opened, with its parts' room. No conditions. -/
import Derived.Deep.Strs
import Derived.SizedLaws
import Derived.Test.YtlpkngjeihoknaaDoorOpen
import Derived.Test.YtlpkngjeihoknaaDoorAspA
namespace Go.Proofs.YtlpkngjeihoknaaDoor
open Go.ChangeShapes Go.WideShapes Go.RowKit Go.Deep Go.Joins
set_option linter.unusedVariables false
theorem pick_list {α : Type} {p : Nat → α → Prop} : ∀ (n : Nat), (∀ i, i < n → ∃ a, p i a) → ∃ l : List α, l.length = n ∧ ∀ i a, l[i]? = some a → p i a
  | 0, _ => ⟨[], rfl, fun i a h => by simp at h⟩
  | n + 1, h => by
    obtain ⟨l, hl, hp⟩ := pick_list n (fun i hi => h i (by omega))
    obtain ⟨a, ha⟩ := h n (by omega)
    refine ⟨l ++ [a], by simp [hl], fun i x hx => ?_⟩
    rcases Nat.lt_or_ge i l.length with hi | hi
    · rw [List.getElem?_append_left hi] at hx
      exact hp i x hx
    · have hi2 : i = l.length := by
        have := (List.getElem?_eq_some_iff.1 hx).1
        simp at this
        omega
      subst hi2
      rw [List.getElem?_append_right (Nat.le_refl _)] at hx
      simp at hx
      subst hx
      rw [hl]
      exact ha
section
variable {H : Type} {enc : TypeId × Value → H} {P : Program} {W : World} {r : Reach} {base : Nat} {t e : TypeId} {v : Value} {d : DataW H} {p : List MemPlace}
/-- A slice of values, each of some cells, opened, with what each datum says. -/
theorem open_rows_q {α : Type} {R : Rep α} {Q : DataW H → α → Prop} {size fuel : Nat} {A : Option Addr} {len cap : Nat} {x : DataW H × List MemPlace} (ht : P.underlying t = some (.slice e)) (hc : P.cellsOf e = size) (hs : 0 < size)
    (elem : ∀ (n : Nat) (cs : List Value) (x : DataW H × List MemPlace), cs.length = size → DataW.trod enc P W 0 (fun _ => true) true n e cs = some x → ∃ a : α, R W (Lo W) cs a ∧ Q x.1 a)
    (h : DataW.trod enc P W 0 (fun _ => true) true fuel t [.slice A len cap] = some x) :
    ∃ l : List α, DL R size W (Lo W) A len l ∧ len ≤ cap ∧ cap ≤ maxLen ∧ ∀ a ∈ l, ∃ (es sp : List (DataW H)) (d : DataW H), x.1 = .slice es sp ∧ d ∈ es ∧ Q d a := by
  rcases DataW.trod_slice ht h with ⟨hcs, _⟩ | ⟨a, len', cap', elems, rest, n, _, hcs, hx, _, hl, hm, hlen, hel, _, _⟩
  · simp at hcs
    obtain ⟨rfl, rfl, rfl⟩ := hcs
    exact ⟨[], DL.none_, Nat.le_refl _, by unfold maxLen; omega, fun a ha => by cases ha⟩
  · simp at hcs
    obtain ⟨rfl, rfl, rfl⟩ := hcs
    rw [hc] at hel
    have key : ∀ i, i < len → ∃ q : List Value × α, q.1.length = size ∧ R W (Lo W) q.1 q.2 ∧ (∃ d, d ∈ elems.map (·.1) ∧ Q d q.2) ∧ ∃ (b off : Nat), a = ⟨b, off, none⟩ ∧ b < W.heap.size ∧ ∀ (j : Nat) (u : Value), q.1[j]? = some u → W.cell? ⟨b, off + (i * size + j), none⟩ = some u := by
      intro i hi
      have h1 := hel i hi
      have hei : elems[i]? = some elems[i] := List.getElem?_eq_getElem (by omega)
      rw [hei, Option.bind_eq_some_iff] at h1
      obtain ⟨cs, hcs, ht⟩ := h1
      obtain ⟨_, hl2, hcell⟩ := World.cells?_some hcs
      obtain ⟨m, hm, hq⟩ := elem _ cs _ hl2 ht
      have hspot : a.spot = none := by
        have h1 := hel 0 (by omega)
        rw [List.getElem?_eq_getElem (by omega), Option.bind_eq_some_iff] at h1
        obtain ⟨cs, hcs, ht⟩ := h1
        obtain ⟨_, hl2, hcell⟩ := World.cells?_some hcs
        have g0 := hcell 0 (by omega)
        rw [List.getElem?_eq_getElem (by omega)] at g0
        have := World.cell?_spot g0
        simpa [Addr.add] using this
      have g0 := hcell 0 (by omega)
      rw [add_of_add, List.getElem?_eq_getElem (by omega)] at g0
      have hlt := lt_of_cell g0
      rw [block_of_add] at hlt
      obtain ⟨b, off, spot⟩ := a
      simp only at hspot
      subst hspot
      refine ⟨(cs, m), hl2, hm, ⟨_, List.mem_map.2 ⟨_, List.mem_of_getElem? hei, rfl⟩, hq⟩, b, off, rfl, hlt, fun j u hu => ?_⟩
      have hj : j < size := by rw [← hl2]; exact (List.getElem?_eq_some_iff.1 hu).1
      have g := hcell j hj
      rw [add_of_add, addr_add] at g
      rw [g]
      exact hu
    obtain ⟨qs, hql, hqs⟩ := pick_list len key
    have hsz : ∀ cs ∈ qs.map (·.1), cs.length = size := by
      intro cs hcs
      obtain ⟨q, hq, rfl⟩ := List.mem_map.1 hcs
      obtain ⟨i, hi⟩ := List.getElem?_of_mem hq
      exact (hqs i q hi).1
    refine ⟨qs.map (·.2), ⟨qs.map (·.1), by simp, by simp [hql], ⟨by rw [flat_len hsz]; simp [hql], fun hn => ?_⟩, fun i cs x h1 h2 => ?_, hsz⟩, hl, hm, fun y hy => ?_⟩
    · obtain ⟨q, hq⟩ : ∃ q, qs[0]? = some q := ⟨_, List.getElem?_eq_getElem (by omega)⟩
      obtain ⟨_, _, _, b, off, rfl, hlt, _⟩ := hqs 0 q hq
      refine ⟨b, off, rfl, hlt, fun j u hu => ?_⟩
      have hj : j < len * size := by
        have := (List.getElem?_eq_some_iff.1 hu).1
        rw [flat_len hsz] at this
        simpa [hql] using this
      have hi : j / size < len := Nat.div_lt_of_lt_mul (by rw [Nat.mul_comm]; exact hj)
      obtain ⟨q2, hq2⟩ : ∃ q, qs[j / size]? = some q := ⟨_, List.getElem?_eq_getElem (by omega)⟩
      obtain ⟨_, _, _, b2, off2, e2, _, hc2⟩ := hqs (j / size) q2 hq2
      injection e2 with e3 e4
      subst e3 e4
      have hm2 : j % size < size := Nat.mod_lt _ hs
      have hdm : j / size * size + j % size = j := by rw [Nat.mul_comm]; exact Nat.div_add_mod j size
      have hf := flat_at hsz (i := j / size) (j := j % size) (cs := q2.1) (by simp [hq2]) hm2
      rw [hdm, hu] at hf
      have := hc2 (j % size) u hf.symm
      rwa [hdm] at this
    · rw [List.getElem?_map, Option.map_eq_some_iff] at h1 h2
      obtain ⟨q, hq, rfl⟩ := h1
      obtain ⟨q', hq', rfl⟩ := h2
      rw [hq] at hq'
      injection hq' with hq'
      subst hq'
      exact (hqs i q hq).2.1
    · obtain ⟨q, hq, rfl⟩ := List.mem_map.1 hy
      obtain ⟨i, hi⟩ := List.getElem?_of_mem hq
      obtain ⟨_, _, ⟨d, hd, hqd⟩, _⟩ := hqs i q hi
      exact ⟨_, _, d, by rw [hx], hd, hqd⟩
theorem weights_all {e : TypeId} : ∀ {l : List (DataW H)} {d : DataW H}, d ∈ l → ∀ n ∈ d.weights P e, n ∈ DataW.weightsAll P e l
  | d' :: r, d, hd, n, hn => by
    simp only [DataW.weightsAll, List.mem_append]
    rcases List.mem_cons.1 hd with rfl | h
    · exact Or.inl hn
    · exact Or.inr (weights_all h n hn)
end
section
variable {H : Type} {enc : TypeId × Value → H} {W : World} {r : Reach} {base : Nat} {v : Value} {d : DataW H} {p : List MemPlace}
/-- A part's numbers have room. -/
def segQ (d : DataW H) (a : Seg) : Prop := a.2 = [] ∨ ∃ N ∈ d.weights Tryd.prog 73, a.2.length * 4 ≤ N
set_option maxRecDepth 100000 in
theorem seg_of_cells (n : Nat) (cs : List Value) (x : DataW H × List MemPlace) (hl : cs.length = 2) (h : DataW.trod enc Tryd.prog W 0 (fun _ => true) true n 73 cs = some x) : ∃ a : Seg, rSeg W (Lo W) cs a ∧ segQ x.1 a := by
  match cs, hl with
  | [c0, c1], _ =>
    obtain ⟨y0, y1, n, hx, _, h0, h1⟩ := trod_struct2 Tryd.underlying73 h
    obtain ⟨a, e0, _, _⟩ := DataW.trod_int Tryd.underlying3 h0
    have k1 : Tryd.prog.cellsOf 3 = 1 := by kernel_rfl
    have k2 : Tryd.prog.cellsOf 37 = 1 := by kernel_rfl
    simp [k1] at e0
    simp [k2] at h1
    subst e0
    rcases DataW.trod_slice Tryd.underlying37 h1 with ⟨hcs, _⟩ | ⟨A, len, cap, elems, rest, _, _, hcs, hy, _, _, _, hlen, _, _, _⟩
    · simp only [List.cons.injEq, and_true] at hcs
      subst hcs
      exact ⟨(a, []), ⟨none, 0, 0, rfl, NF.none_, Nat.le_refl _⟩, .inl rfl⟩
    · simp only [List.cons.injEq, and_true] at hcs
      subst hcs
      obtain ⟨l, hb, hlc, _⟩ := open_nums_at Tryd.underlying37 Tryd.underlying33 (by kernel_rfl) h1
      refine ⟨(a, l), ⟨some A, len, cap, rfl, NF.of hb (fun b hb => hb), hlc⟩, .inr ⟨(elems.length + rest.length) * 4, ?_, ?_⟩⟩
      · have kb : Tryd.prog.bytesOf 33 = 4 := by kernel_rfl
        rw [hx, hy]
        simp [DataW.weights, DataW.weightsEach, Tryd.underlying73, Tryd.underlying37, kb]
      · show l.length * 4 ≤ _
        have : len = l.length := hb.1
        omega
set_option maxRecDepth 100000 in
theorem open_segs (hv : Value.okWide Tryd.prog W r base 22 v) (h : DataW.Trod enc Tryd.prog W 0 (fun _ => true) true 22 v d p) (hz : ∀ N ∈ d.weights Tryd.prog 22, N ≤ reachBytes) :
    ∃ (A : Option Addr) (n c : Nat) (l : List Seg), v = .slice A n c ∧ DL rSeg 2 W (Lo W) A n l ∧ n ≤ c ∧ c ≤ maxLen ∧ ∀ x ∈ l, x.2.length ≤ big32 := by
  obtain ⟨A, n, c, rfl⟩ := okWide_slice Tryd.underlying22 hv
  obtain ⟨fuel, hf⟩ := h
  obtain ⟨l, hd, h1, h2, hq⟩ := open_rows_q Tryd.underlying22 (by kernel_rfl) (by omega) seg_of_cells hf
  refine ⟨A, n, c, l, rfl, hd, h1, h2, fun x hx => ?_⟩
  obtain ⟨es, sp, dd, e1, hm, hQ⟩ := hq x hx
  rcases hQ with h0 | ⟨N, hN, hle⟩
  · rw [h0]; exact Nat.zero_le _
  · simp only at e1
    have hw : N ∈ d.weights Tryd.prog 22 := by
      rw [e1]
      simp only [DataW.weights, Tryd.underlying22, List.mem_cons, List.mem_append]
      exact .inr (.inl (weights_all hm N hN))
    have := hz N hw
    have hr : reachBytes = 140737488351232 := rfl
    unfold big32
    omega
end
end Go.Proofs.YtlpkngjeihoknaaDoor
