/- Joined texts: A path that comes in, opened, with its parts' room; Attributes by value, opened, with their parts' room; The row's list of attrs.looks gives the walks' fact on the table. Conditions: those of the theorems. -/
import Derived.Deep.Strs
import Derived.SizedLaws
import Derived.Test.YtlpkngjeihoknaaDoorOpen
import Derived.Test.YtlpkngjeihoknaaDoorAspA
import Derived.Test.YtlpkngjeihoknaaDoorAttA
import Derived.Test.YtlpkngjeihoknaaDoorRows
import Derived.ProofKit
import Derived.OpenShut
import Derived.Lib.LaidTab
namespace Go.Proofs.YtlpkngjeihoknaaDoor
open Go.ChangeShapes Go.WideShapes Go.RowKit Go.Deep Go.Joins
set_option linter.unusedVariables false
theorem pick_list {α : Type} {p : Nat → α → Prop} : ∀ (n : Nat), (∀ i, i < n → ∃ a, p i a) → ∃ l : List α, l.length = n ∧ ∀ i a, l[i]? = some a → p i a
  | 0, _ => ⟨[], rfl, fun i a h => by simp at h⟩
  | n + 1, h => by
    obtain ⟨l, hl, hp⟩ := pick_list n (fun i hi => h i (by omega))
    obtain ⟨a, ha⟩ := h n (by omega)
    refine ⟨l ++ [a], by simp [hl], fun i x hx => ?_⟩
    rcases Nat.lt_or_ge i l.length with hi | hi
    · rw [List.getElem?_append_left hi] at hx
      exact hp i x hx
    · have hi2 : i = l.length := by
        have := (List.getElem?_eq_some_iff.1 hx).1
        simp at this
        omega
      subst hi2
      rw [List.getElem?_append_right (Nat.le_refl _)] at hx
      simp at hx
      subst hx
      rw [hl]
      exact ha
section
variable {H : Type} {enc : TypeId × Value → H} {P : Program} {W : World} {r : Reach} {base : Nat} {t e : TypeId} {v : Value} {d : DataW H} {p : List MemPlace}
/-- A slice of values, each of some cells, opened, with what each datum says. -/
theorem open_rows_q {α : Type} {R : Rep α} {Q : DataW H → α → Prop} {size fuel : Nat} {A : Option Addr} {len cap : Nat} {x : DataW H × List MemPlace} (ht : P.underlying t = some (.slice e)) (hc : P.cellsOf e = size) (hs : 0 < size)
    (elem : ∀ (n : Nat) (cs : List Value) (x : DataW H × List MemPlace), cs.length = size → DataW.trod enc P W 0 (fun _ => true) true n e cs = some x → ∃ a : α, R W (Lo W) cs a ∧ Q x.1 a)
    (h : DataW.trod enc P W 0 (fun _ => true) true fuel t [.slice A len cap] = some x) :
    ∃ l : List α, DL R size W (Lo W) A len l ∧ len ≤ cap ∧ cap ≤ maxLen ∧ ∀ a ∈ l, ∃ (es sp : List (DataW H)) (d : DataW H), x.1 = .slice es sp ∧ d ∈ es ∧ Q d a := by
  rcases DataW.trod_slice ht h with ⟨hcs, _⟩ | ⟨a, len', cap', elems, rest, n, _, hcs, hx, _, hl, hm, hlen, hel, _, _⟩
  · simp at hcs
    obtain ⟨rfl, rfl, rfl⟩ := hcs
    exact ⟨[], DL.none_, Nat.le_refl _, by unfold maxLen; omega, fun a ha => by cases ha⟩
  · simp at hcs
    obtain ⟨rfl, rfl, rfl⟩ := hcs
    rw [hc] at hel
    have key : ∀ i, i < len → ∃ q : List Value × α, q.1.length = size ∧ R W (Lo W) q.1 q.2 ∧ (∃ d, d ∈ elems.map (·.1) ∧ Q d q.2) ∧ ∃ (b off : Nat), a = ⟨b, off, none⟩ ∧ b < W.heap.size ∧ ∀ (j : Nat) (u : Value), q.1[j]? = some u → W.cell? ⟨b, off + (i * size + j), none⟩ = some u := by
      intro i hi
      have h1 := hel i hi
      have hei : elems[i]? = some elems[i] := List.getElem?_eq_getElem (by omega)
      rw [hei, Option.bind_eq_some_iff] at h1
      obtain ⟨cs, hcs, ht⟩ := h1
      obtain ⟨_, hl2, hcell⟩ := World.cells?_some hcs
      obtain ⟨m, hm, hq⟩ := elem _ cs _ hl2 ht
      have hspot : a.spot = none := by
        have h1 := hel 0 (by omega)
        rw [List.getElem?_eq_getElem (by omega), Option.bind_eq_some_iff] at h1
        obtain ⟨cs, hcs, ht⟩ := h1
        obtain ⟨_, hl2, hcell⟩ := World.cells?_some hcs
        have g0 := hcell 0 (by omega)
        rw [List.getElem?_eq_getElem (by omega)] at g0
        have := World.cell?_spot g0
        simpa [Addr.add] using this
      have g0 := hcell 0 (by omega)
      rw [add_of_add, List.getElem?_eq_getElem (by omega)] at g0
      have hlt := lt_of_cell g0
      rw [block_of_add] at hlt
      obtain ⟨b, off, spot⟩ := a
      simp only at hspot
      subst hspot
      refine ⟨(cs, m), hl2, hm, ⟨_, List.mem_map.2 ⟨_, List.mem_of_getElem? hei, rfl⟩, hq⟩, b, off, rfl, hlt, fun j u hu => ?_⟩
      have hj : j < size := by rw [← hl2]; exact (List.getElem?_eq_some_iff.1 hu).1
      have g := hcell j hj
      rw [add_of_add, addr_add] at g
      rw [g]
      exact hu
    obtain ⟨qs, hql, hqs⟩ := pick_list len key
    have hsz : ∀ cs ∈ qs.map (·.1), cs.length = size := by
      intro cs hcs
      obtain ⟨q, hq, rfl⟩ := List.mem_map.1 hcs
      obtain ⟨i, hi⟩ := List.getElem?_of_mem hq
      exact (hqs i q hi).1
    refine ⟨qs.map (·.2), ⟨qs.map (·.1), by simp, by simp [hql], ⟨by rw [flat_len hsz]; simp [hql], fun hn => ?_⟩, fun i cs x h1 h2 => ?_, hsz⟩, hl, hm, fun y hy => ?_⟩
    · obtain ⟨q, hq⟩ : ∃ q, qs[0]? = some q := ⟨_, List.getElem?_eq_getElem (by omega)⟩
      obtain ⟨_, _, _, b, off, rfl, hlt, _⟩ := hqs 0 q hq
      refine ⟨b, off, rfl, hlt, fun j u hu => ?_⟩
      have hj : j < len * size := by
        have := (List.getElem?_eq_some_iff.1 hu).1
        rw [flat_len hsz] at this
        simpa [hql] using this
      have hi : j / size < len := Nat.div_lt_of_lt_mul (by rw [Nat.mul_comm]; exact hj)
      obtain ⟨q2, hq2⟩ : ∃ q, qs[j / size]? = some q := ⟨_, List.getElem?_eq_getElem (by omega)⟩
      obtain ⟨_, _, _, b2, off2, e2, _, hc2⟩ := hqs (j / size) q2 hq2
      injection e2 with e3 e4
      subst e3 e4
      have hm2 : j % size < size := Nat.mod_lt _ hs
      have hdm : j / size * size + j % size = j := by rw [Nat.mul_comm]; exact Nat.div_add_mod j size
      have hf := flat_at hsz (i := j / size) (j := j % size) (cs := q2.1) (by simp [hq2]) hm2
      rw [hdm, hu] at hf
      have := hc2 (j % size) u hf.symm
      rwa [hdm] at this
    · rw [List.getElem?_map, Option.map_eq_some_iff] at h1 h2
      obtain ⟨q, hq, rfl⟩ := h1
      obtain ⟨q', hq', rfl⟩ := h2
      rw [hq] at hq'
      injection hq' with hq'
      subst hq'
      exact (hqs i q hq).2.1
    · obtain ⟨q, hq, rfl⟩ := List.mem_map.1 hy
      obtain ⟨i, hi⟩ := List.getElem?_of_mem hq
      obtain ⟨_, _, ⟨d, hd, hqd⟩, _⟩ := hqs i q hi
      exact ⟨_, _, d, by rw [hx], hd, hqd⟩
theorem weights_all {e : TypeId} : ∀ {l : List (DataW H)} {d : DataW H}, d ∈ l → ∀ n ∈ d.weights P e, n ∈ DataW.weightsAll P e l
  | d' :: r, d, hd, n, hn => by
    simp only [DataW.weightsAll, List.mem_append]
    rcases List.mem_cons.1 hd with rfl | h
    · exact Or.inl hn
    · exact Or.inr (weights_all h n hn)
end
section
variable {H : Type} {enc : TypeId × Value → H} {W : World} {r : Reach} {base : Nat} {v : Value} {d : DataW H} {p : List MemPlace}
/-- A part's numbers have room. -/
def segQ (d : DataW H) (a : Seg) : Prop := a.2 = [] ∨ ∃ N ∈ d.weights Tryd.prog 73, a.2.length * 4 ≤ N
set_option maxRecDepth 100000 in
theorem seg_of_cells (n : Nat) (cs : List Value) (x : DataW H × List MemPlace) (hl : cs.length = 2) (h : DataW.trod enc Tryd.prog W 0 (fun _ => true) true n 73 cs = some x) : ∃ a : Seg, rSeg W (Lo W) cs a ∧ segQ x.1 a := by
  match cs, hl with
  | [c0, c1], _ =>
    obtain ⟨y0, y1, n, hx, _, h0, h1⟩ := trod_struct2 Tryd.underlying73 h
    obtain ⟨a, e0, _, _⟩ := DataW.trod_int Tryd.underlying3 h0
    have k1 : Tryd.prog.cellsOf 3 = 1 := by kernel_rfl
    have k2 : Tryd.prog.cellsOf 37 = 1 := by kernel_rfl
    simp [k1] at e0
    simp [k2] at h1
    subst e0
    rcases DataW.trod_slice Tryd.underlying37 h1 with ⟨hcs, _⟩ | ⟨A, len, cap, elems, rest, _, _, hcs, hy, _, _, _, hlen, _, _, _⟩
    · simp only [List.cons.injEq, and_true] at hcs
      subst hcs
      exact ⟨(a, []), ⟨none, 0, 0, rfl, NF.none_, Nat.le_refl _⟩, .inl rfl⟩
    · simp only [List.cons.injEq, and_true] at hcs
      subst hcs
      obtain ⟨l, hb, hlc, _⟩ := open_nums_at Tryd.underlying37 Tryd.underlying33 (by kernel_rfl) h1
      refine ⟨(a, l), ⟨some A, len, cap, rfl, NF.of hb (fun b hb => hb), hlc⟩, .inr ⟨(elems.length + rest.length) * 4, ?_, ?_⟩⟩
      · have kb : Tryd.prog.bytesOf 33 = 4 := by kernel_rfl
        rw [hx, hy]
        simp [DataW.weights, DataW.weightsEach, Tryd.underlying73, Tryd.underlying37, kb]
      · show l.length * 4 ≤ _
        have : len = l.length := hb.1
        omega
set_option maxRecDepth 100000 in
theorem open_segs (hv : Value.okWide Tryd.prog W r base 22 v) (h : DataW.Trod enc Tryd.prog W 0 (fun _ => true) true 22 v d p) (hz : ∀ N ∈ d.weights Tryd.prog 22, N ≤ reachBytes) :
    ∃ (A : Option Addr) (n c : Nat) (l : List Seg), v = .slice A n c ∧ DL rSeg 2 W (Lo W) A n l ∧ n ≤ c ∧ c ≤ maxLen ∧ ∀ x ∈ l, x.2.length ≤ big32 := by
  obtain ⟨A, n, c, rfl⟩ := okWide_slice Tryd.underlying22 hv
  obtain ⟨fuel, hf⟩ := h
  obtain ⟨l, hd, h1, h2, hq⟩ := open_rows_q Tryd.underlying22 (by kernel_rfl) (by omega) seg_of_cells hf
  refine ⟨A, n, c, l, rfl, hd, h1, h2, fun x hx => ?_⟩
  obtain ⟨es, sp, dd, e1, hm, hQ⟩ := hq x hx
  rcases hQ with h0 | ⟨N, hN, hle⟩
  · rw [h0]; exact Nat.zero_le _
  · simp only at e1
    have hw : N ∈ d.weights Tryd.prog 22 := by
      rw [e1]
      simp only [DataW.weights, Tryd.underlying22, List.mem_cons, List.mem_append]
      exact .inr (.inl (weights_all hm N hN))
    have := hz N hw
    have hr : reachBytes = 140737488351232 := rfl
    unfold big32
    omega
end
end Go.Proofs.YtlpkngjeihoknaaDoor
namespace Go.Proofs.YtlpkngjeihoknaaDoor
open Go.ChangeShapes Go.WideShapes Go.RowKit Go.Deep Go.Joins
set_option linter.unusedVariables false
set_option linter.unusedSimpArgs false
section
variable {H : Type} {enc : TypeId × Value → H} {W : World} {r : Reach} {base : Nat} {v : Value} {d : DataW H} {p : List MemPlace}
set_option maxRecDepth 100000 in
theorem raw_of_cells (n : Nat) (cs : List Value) (x : DataW H × List MemPlace) (hl : cs.length = 3) (h : DataW.trod enc Tryd.prog W 0 (fun _ => true) true n 100 cs = some x) : ∃ a : RawV, rRaw W (Lo W) cs a := by
  match cs, hl with
  | [c0, c1, c2], _ =>
    obtain ⟨y0, y1, y2, n, _, _, h0, h1, h2⟩ := trod_struct3 Tryd.underlying100 h
    have k1 : Tryd.prog.cellsOf 3 = 1 := by kernel_rfl
    have k2 : Tryd.prog.cellsOf 40 = 1 := by kernel_rfl
    simp [k1] at h0 h1
    simp [k2] at h2
    obtain ⟨a, e0, _, wa⟩ := DataW.trod_int Tryd.underlying3 h0
    obtain ⟨b, e1, _, wb⟩ := DataW.trod_int Tryd.underlying3 h1
    simp only [List.cons.injEq, and_true] at e0 e1
    subst e0 e1
    rcases DataW.trod_slice Tryd.underlying40 h2 with ⟨hcs, _⟩ | ⟨A, len, cap, _, _, _, _, hcs, _⟩
    · simp only [List.cons.injEq, and_true] at hcs
      subst hcs
      exact ⟨(a, b, []), none, 0, 0, rfl, BF.of (B := 0) BS.none_ (fun b hb => absurd hb (by omega)), Nat.le_refl _, wa, wb⟩
    · simp only [List.cons.injEq, and_true] at hcs
      subst hcs
      obtain ⟨l, hb, hl, _⟩ := open_bytes_at Tryd.underlying40 Tryd.underlying5 (by kernel_rfl) h2
      exact ⟨(a, b, l), some A, len, cap, rfl, BF.of hb (fun b hb => hb), hl, wa, wb⟩
theorem room_of {e : DataW H} {l : List Seg} (hz : ∀ N ∈ e.weights Tryd.prog 22, N ≤ reachBytes) (hq : ∀ a ∈ l, ∃ (es sp : List (DataW H)) (d : DataW H), e = .slice es sp ∧ d ∈ es ∧ segQ d a) : ∀ x ∈ l, x.2.length ≤ big32 := by
  intro x hx
  obtain ⟨es, sp, dd, e1, hm, hQ⟩ := hq x hx
  rcases hQ with h0 | ⟨N, hN, hle⟩
  · rw [h0]; exact Nat.zero_le _
  · have hw : N ∈ e.weights Tryd.prog 22 := by
      rw [e1]
      simp only [DataW.weights, Tryd.underlying22, List.mem_cons, List.mem_append]
      exact .inr (.inl (weights_all hm N hN))
    have := hz N hw
    have hr : reachBytes = 140737488351232 := rfl
    unfold big32
    omega
set_option maxRecDepth 100000 in
theorem open_attrs (hv : Value.okWide Tryd.prog W r base 54 v) (h : DataW.Trod enc Tryd.prog W 0 (fun _ => true) true 54 v d p) (hz : ∀ N ∈ d.weights Tryd.prog 54, N ≤ reachBytes) :
    ∃ (o : Int) (A : Option Addr) (n c : Nat) (path : List Seg) (nx md pf : Int) (at_ ha : Bool) (gs ga : Int) (A1 : Option Addr) (n1 c1 : Nat) (comms : List Int) (A2 : Option Addr) (n2 c2 : Nat) (raws : List RawV), v = .agg #[.int .i64 o, .slice A n c, .int .u32 nx, .int .i64 md, .int .i64 pf, .bool at_, .bool ha, .int .u32 gs, .int .u32 ga, .slice A1 n1 c1, .slice A2 n2 c2] ∧ DL rSeg 2 W (Lo W) A n path ∧ NF W (Lo W) A1 n1 comms ∧ DL rRaw 3 W (Lo W) A2 n2 raws ∧ (0 ≤ nx ∧ nx < 4294967296 ∧ 0 ≤ gs ∧ gs < 4294967296 ∧ 0 ≤ ga ∧ ga < 4294967296) ∧ ∀ x ∈ path, x.2.length ≤ big32 := by
  have k0 : Tryd.prog.cellsOf 54 = 11 := by kernel_rfl
  have k1 : Tryd.prog.cellsOf 3 = 1 := by kernel_rfl
  have k2 : Tryd.prog.cellsOf 33 = 1 := by kernel_rfl
  have k3 : Tryd.prog.cellsOf 4 = 1 := by kernel_rfl
  have k4 : Tryd.prog.cellsOf 22 = 1 := by kernel_rfl
  have k5 : Tryd.prog.cellsOf 37 = 1 := by kernel_rfl
  have k6 : Tryd.prog.cellsOf 52 = 1 := by kernel_rfl
  obtain ⟨cs, rfl, hsz⟩ := okWide_struct Tryd.underlying54 hv
  obtain ⟨c0, c1, c2, c3, c4, c5, c6, c7, c8, c9, c10, rfl⟩ : ∃ c0 c1 c2 c3 c4 c5 c6 c7 c8 c9 c10, cs = #[c0, c1, c2, c3, c4, c5, c6, c7, c8, c9, c10] := by
    obtain ⟨l⟩ := cs
    match l, hsz.trans k0 with
    | [c0, c1, c2, c3, c4, c5, c6, c7, c8, c9, c10], _ => exact ⟨c0, c1, c2, c3, c4, c5, c6, c7, c8, c9, c10, rfl⟩
  obtain ⟨fuel, hf⟩ := h
  obtain ⟨xs, m, _, hd, _, hlen, hf⟩ := DataW.trod_struct Tryd.underlying54 hf
  match xs, hlen with
  | [y0, y1, y2, y3, y4, y5, y6, y7, y8, y9, y10], _ =>
    have h0 := hf 0 _ rfl
    have h1 := hf 1 _ rfl
    have h2 := hf 2 _ rfl
    have h3 := hf 3 _ rfl
    have h4 := hf 4 _ rfl
    have h5 := hf 5 _ rfl
    have h6 := hf 6 _ rfl
    have h7 := hf 7 _ rfl
    have h8 := hf 8 _ rfl
    have h9 := hf 9 _ rfl
    have h10 := hf 10 _ rfl
    simp [k1, Value.cells] at h0 h3 h4
    simp [k2, Value.cells] at h2 h7 h8
    simp [k3, Value.cells] at h5 h6
    simp [k4, Value.cells] at h1
    simp [k5, Value.cells] at h9
    simp [k6, Value.cells] at h10
    obtain ⟨o, e0, _, _⟩ := DataW.trod_int Tryd.underlying3 h0
    obtain ⟨nx, e2, _, w2⟩ := DataW.trod_int Tryd.underlying33 h2
    obtain ⟨md, e3, _, _⟩ := DataW.trod_int Tryd.underlying3 h3
    obtain ⟨pf, e4, _, _⟩ := DataW.trod_int Tryd.underlying3 h4
    obtain ⟨at_, e5, _⟩ := DataW.trod_bool Tryd.underlying4 h5
    obtain ⟨ha, e6, _⟩ := DataW.trod_bool Tryd.underlying4 h6
    obtain ⟨gs, e7, _, w7⟩ := DataW.trod_int Tryd.underlying33 h7
    obtain ⟨ga, e8, _, w8⟩ := DataW.trod_int Tryd.underlying33 h8
    simp only [List.cons.injEq, and_true] at e0 e2 e3 e4 e5 e6 e7 e8
    subst e0 e2 e3 e4 e5 e6 e7 e8
    have w2 : 0 ≤ nx ∧ nx ≤ 4294967295 := by simpa [Lit.wf, IntKind.min, IntKind.max, IntKind.signed, IntKind.bits] using w2
    have w7 : 0 ≤ gs ∧ gs ≤ 4294967295 := by simpa [Lit.wf, IntKind.min, IntKind.max, IntKind.signed, IntKind.bits] using w7
    have w8 : 0 ≤ ga ∧ ga ≤ 4294967295 := by simpa [Lit.wf, IntKind.min, IntKind.max, IntKind.signed, IntKind.bits] using w8
    have hwt : ∀ N ∈ y1.1.weights Tryd.prog 22, N ≤ reachBytes := fun N hN => hz N (by
      have e : d = .agg [y0.1, y1.1, y2.1, y3.1, y4.1, y5.1, y6.1, y7.1, y8.1, y9.1, y10.1] := by
        have := congrArg (·.1) hd
        simpa using this
      rw [e]
      simp only [DataW.weights, DataW.weightsEach, Tryd.underlying54]
      simp [DataW.weightsEach, hN])
    have hpath : ∃ (A : Option Addr) (n c : Nat) (path : List Seg), c1 = .slice A n c ∧ DL rSeg 2 W (Lo W) A n path ∧ ∀ x ∈ path, x.2.length ≤ big32 := by
      rcases DataW.trod_slice Tryd.underlying22 h1 with ⟨hcs, _⟩ | ⟨A, len, cap, _, _, _, _, hcs, _⟩
      · simp only [List.cons.injEq, and_true] at hcs
        exact ⟨none, 0, 0, [], hcs, DL.none_, fun x hx => by cases hx⟩
      · simp only [List.cons.injEq, and_true] at hcs
        subst hcs
        obtain ⟨l, hdl, _, _, hq⟩ := open_rows_q Tryd.underlying22 (by kernel_rfl) (by omega) seg_of_cells h1
        exact ⟨some A, len, cap, l, rfl, hdl, room_of hwt hq⟩
    have hcomm : ∃ (A : Option Addr) (n c : Nat) (l : List Int), c9 = .slice A n c ∧ NF W (Lo W) A n l := by
      rcases DataW.trod_slice Tryd.underlying37 h9 with ⟨hcs, _⟩ | ⟨A, len, cap, _, _, _, _, hcs, _⟩
      · simp only [List.cons.injEq, and_true] at hcs
        exact ⟨none, 0, 0, [], hcs, NF.none_⟩
      · simp only [List.cons.injEq, and_true] at hcs
        subst hcs
        obtain ⟨l, hb, _⟩ := open_nums_at Tryd.underlying37 Tryd.underlying33 (by kernel_rfl) h9
        exact ⟨some A, len, cap, l, rfl, NF.of hb (fun b hb => hb)⟩
    have hraw : ∃ (A : Option Addr) (n c : Nat) (l : List RawV), c10 = .slice A n c ∧ DL rRaw 3 W (Lo W) A n l := by
      rcases DataW.trod_slice Tryd.underlying52 h10 with ⟨hcs, _⟩ | ⟨A, len, cap, _, _, _, _, hcs, _⟩
      · simp only [List.cons.injEq, and_true] at hcs
        exact ⟨none, 0, 0, [], hcs, DL.none_⟩
      · simp only [List.cons.injEq, and_true] at hcs
        subst hcs
        obtain ⟨l, hdl, _, _, _⟩ := open_rows_q (R := rRaw) (size := 3) (Q := fun _ _ => True) Tryd.underlying52 (by kernel_rfl) (by omega) (fun n cs x hl h => by
          obtain ⟨a, ha⟩ := raw_of_cells n cs x hl h
          exact ⟨a, ha, trivial⟩) h10
        exact ⟨some A, len, cap, l, rfl, hdl⟩
    obtain ⟨A, n, c, path, rfl, hp, hr⟩ := hpath
    obtain ⟨A1, n1, c1', comms, rfl, hc⟩ := hcomm
    obtain ⟨A2, n2, c2', raws, rfl, hw⟩ := hraw
    exact ⟨o, A, n, c, path, nx, md, pf, at_, ha, gs, ga, A1, n1, c1', comms, A2, n2, c2', raws, rfl, hp, hc, hw, ⟨w2.1, by omega, w7.1, by omega, w8.1, by omega⟩, hr⟩
end
end Go.Proofs.YtlpkngjeihoknaaDoor
namespace Go.Proofs.YtlpkngjeihoknaaDoor
open Go.ChangeShapes Go.WideShapes Go.RowKit
theorem gLook : Tryd.prog.globalNamed "speculum/attrs.looks" = some 0 := by kernel_rfl
theorem gLookType : (Tryd.prog.globals[0]?).map (·.type) = some 104 := by kernel_rfl
theorem lookLaid_is {H : Type} : (Rows.laid_speculum_attrs_looks : DataW H) = .agg (lookTbl.map fun p => .agg [.lit (.int .i64 (p.1 : Int)), .lit (.int .i64 (p.2.1 : Int)), .lit (.int .i64 (p.2.2 : Int))]) := by kernel_rfl
theorem lookCells {H : Type} {enc : TypeId × Value → H} {w : World} {fuel b : Nat} {sp : Nat → Bool} {held : Bool} {cs : List Value} {p : List MemPlace}
    (h : DataW.trod enc Tryd.prog w b sp held fuel 104 cs = some (Rows.laid_speculum_attrs_looks, p)) (k : Nat) (hk : k < 19) :
    cs[k * 3]? = some (.int .i64 ((lookAt k).1 : Int)) ∧ cs[k * 3 + 1]? = some (.int .i64 ((lookAt k).2.1 : Int)) ∧ cs[k * 3 + 2]? = some (.int .i64 ((lookAt k).2.2 : Int)) := by
  rw [lookLaid_is] at h
  obtain ⟨xs, m, _, hx, _, hl, hg⟩ := DataW.trod_array Tryd.underlying104 h
  rw [show Tryd.prog.cellsOf 103 = 3 by kernel_rfl] at hg
  have hxs := congrArg Prod.fst hx
  simp only [DataW.agg.injEq] at hxs
  have h1 := hg k hk
  have hcell : lookTbl[k]? = some (lookAt k) := by
    have hln : lookTbl.length = 19 := rfl
    unfold lookAt
    rw [List.getElem?_eq_getElem (by omega)]; rfl
  have hx1 : (xs.map (·.1))[k]? = some (.agg [.lit (.int .i64 ((lookAt k).1 : Int)), .lit (.int .i64 ((lookAt k).2.1 : Int)), .lit (.int .i64 ((lookAt k).2.2 : Int))]) := by
    rw [← hxs, List.getElem?_map, hcell]; rfl
  simp only [List.getElem?_map, Option.map_eq_some_iff] at hx1
  obtain ⟨⟨d1, p1⟩, hy1, hd1⟩ := hx1
  simp only at hd1
  subst hd1
  rw [hy1] at h1
  obtain ⟨zs, m'', _, hx'', _, hl'', hg''⟩ := DataW.trod_struct Tryd.underlying103 h1
  have hzs := congrArg Prod.fst hx''
  simp only [DataW.agg.injEq] at hzs
  match zs, hl'', hzs with
  | [z0, z1, z2], _, hzs =>
    simp only [List.map_cons, List.map_nil, List.cons.injEq, and_true] at hzs
    have g0 := hg'' 0 _ rfl
    have g1 := hg'' 1 _ rfl
    have g2 := hg'' 2 _ rfl
    obtain ⟨n0, c0, e0, _⟩ := DataW.trod_int Tryd.underlying3 g0
    obtain ⟨n1, c1, e1, _⟩ := DataW.trod_int Tryd.underlying3 g1
    obtain ⟨n2, c2, e2, _⟩ := DataW.trod_int Tryd.underlying3 g2
    rw [e0, e1, e2] at hzs
    simp only [DataW.lit.injEq, Lit.int.injEq, true_and] at hzs
    obtain ⟨rfl, rfl, rfl⟩ := hzs
    have q0 := congrArg (·[0]?) c0
    have q1 := congrArg (·[0]?) c1
    have q2 := congrArg (·[0]?) c2
    simp only [List.getElem?_take, List.getElem?_drop] at q0 q1 q2
    simp at q0 q1 q2
    exact ⟨q0.2, by simpa [Nat.add_assoc] using q1.2, by simpa [Nat.add_assoc] using q2.2⟩
theorem lookTab_of {W : World} (h : laidMetH Tryd.prog [("speculum/attrs.looks", Rows.laid_speculum_attrs_looks)] W) : LookTab W := by
  obtain ⟨ps, ⟨g', t', cs, fuel, p, q, hg', ht', hvar, hd, _, _⟩, _⟩ := h
  obtain rfl := Option.some.inj (gLook.symm.trans hg')
  obtain rfl := Option.some.inj (gLookType.symm.trans ht')
  intro k hk
  have hc := lookCells hd k hk
  refine ⟨(World.var?_cell gLook hvar _).trans ?_, (World.var?_cell gLook hvar _).trans ?_, (World.var?_cell gLook hvar _).trans ?_⟩
  · rw [← hc.1]; simp
  · rw [← hc.2.1]; simp
  · rw [← hc.2.2]; simp
theorem look_lt {W : World} (h : LookTab W) : 0 < W.heap.size := lt_of_cell (h 0 (by omega)).1
end Go.Proofs.YtlpkngjeihoknaaDoor
