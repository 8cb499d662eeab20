/- Walks of the library's slices.Insert: what holds of every type of element. No conditions. -/
import Derived.Test.YtlpkngjeihoknaaDoorSRows
import Derived.Test.YtlpkngjeihoknaaDoorDeep
import Derived.Laws.CopyRow
import Derived.Laws.IdiomCopy
import Derived.Lib.Overlaps
import Derived.Lib.AppendZerosOnto
namespace Go.Proofs.YtlpkngjeihoknaaDoor
open Go.RowKit
set_option linter.unusedSimpArgs false
set_option linter.unusedVariables false
theorem run_copy_rowK {P : Program} (w : World) (dT sT ty elem : TypeId) (k g o dLen dCap : Nat) (a : Addr) (sLen sCap : Nat) (cur : Array Value) (t : TypeId) (cs : List Value)
    (hu : P.underlying dT = some (.slice elem)) (hs : (P.info? elem).map (·.size) = some k)
    (hg : w.heap[g]? = some (.cells cur t (0, 0))) (m : Nat) (hm : Nat.min sLen dLen = m) (hn : cs.length = m * k)
    (hsrc : ∀ j v, cs[j]? = some v → w.cell? (a.add j) = some v) (hfit : o + cs.length ≤ cur.size) (h1 : ∀ v ∈ cs, v.oneCell' = true) :
    (Builtin.copy_ #[dT, sT] ty #[.slice (some ⟨g, o, none⟩) dLen dCap, .slice (some a) sLen sCap]).run P w =
      .ok (goInt m) (w.setRow g (cur.toList.take o ++ cs ++ cur.toList.drop (o + cs.length)).toArray) := by
  have hl := run_loadCells_list (P := P) w a cs hsrc
  have hst := run_storeCells_at P g o t cs 0 cur w hg (by simpa using hfit) h1
  cases hq : P.info? elem with
  | none => simp [hq] at hs
  | some i =>
    have hi : i.size = k := by simpa [hq] using hs
    simp [Builtin.copy_, run_underlying hu, Builtin.lenOf, Builtin.firstCells, sizeOf, typeInfo, hq, hi, hm, ← hn, hl, hst]
theorem wpl_copyK {P : Program} (w : World) {ops : Array Oper} {rest : List Oper} {o : Oper} {a : Act} {Q : Exit → Act → World → Prop} (hgd : o.guard = none) (d s : Operand) (t t' : TypeId)
    (ho : o.op = .call { callee := .builtin .copy, args := #[d, s], argTypes := #[t, t'] }) (v u : Value) (hd : a.eval d = v) (hs : a.eval s = u) {v' : Value} {w' : World}
    (hr : (Builtin.copy_ #[t, t'] o.type #[v, u]).run P w = .ok v' w') (h : wpList P ops Q rest (a.put o.dst v') w') : wpList P ops Q (o :: rest) a w :=
  wpList_plain hgd fun _ hK => by
    unfold Oper.wp execOp
    simp only [ho, resolve, invoke, builtin, Sem.run_bind, Sem.run_pure, Result.andThen_ok, List.map_toArray, List.map_cons, List.map_nil, hd, hs, hr]
    exact hK _ _ h
theorem step_copyK {P : Program} {ops : Array Oper} {o : Oper} {a : Act} {w : World} {K : Act → World → Prop} {Q : Exit → Act → World → Prop} {E : Prop}
    (hg : o.guard = none) (d x : Operand) (dT sT : TypeId) (hop : o.op = Op.call { callee := Callee.builtin Builtin.copy, args := #[d, x], argTypes := #[dT, sT] })
    (v u : Value) (hd : a.eval d = v) (hx : a.eval x = u) {v' : Value} {w' : World} (hr : (Builtin.copy_ #[dT, sT] o.type #[v, u]).run P w = .ok v' w') (hK : K (a.put o.dst v') w') :
    if Region.wanted o (yielded ops a.tmps) = true then Oper.wp P o a w K Q else E := by
  have hw : Region.wanted o (yielded ops a.tmps) = true := by simp [Region.wanted, hg]
  rw [if_pos hw]
  unfold Oper.wp
  simp [execOp, hop, resolve, invoke, builtin, hd, hx, hr, Result.andThen]
  exact hK
theorem shiftL {cur xs vs : List Value} {m a k : Nat} (h : cur.take m = xs) (hx : xs.length = m) (ha : a ≤ m) (hv : vs.length = k) (hc : m + k ≤ cur.length) :
    let r1 := cur.take (a + k) ++ xs.drop a ++ cur.drop (a + k + (xs.drop a).length)
    let r2 := r1.take a ++ vs ++ r1.drop (a + vs.length)
    r1.length = cur.length ∧ r2.length = cur.length ∧ r2.take (m + k) = xs.take a ++ vs ++ xs.drop a := by
  intro r1 r2
  have e0 : (xs.drop a).length = m - a := by rw [List.length_drop, hx]
  have e1 : r1.length = cur.length := by
    simp only [r1, List.length_append, List.length_take, List.length_drop]; omega
  have e2 : r2.length = cur.length := by
    simp only [r2, List.length_append, List.length_take, List.length_drop]; omega
  refine ⟨e1, e2, ?_⟩
  have t1 : r1.take a = xs.take a := by
    simp only [r1]
    rw [List.append_assoc, List.take_append_of_le_length (by rw [List.length_take]; omega), List.take_take, Nat.min_eq_left (by omega), ← h, List.take_take, Nat.min_eq_left ha]
  have t2 : r1.drop (a + vs.length) = xs.drop a ++ cur.drop (a + k + (xs.drop a).length) := by
    simp only [r1]
    rw [hv, List.append_assoc, List.drop_left' (by rw [List.length_take]; omega)]
  simp only [r2]
  rw [t1, t2, ← List.append_assoc (xs.take a ++ vs), List.take_left' (by simp only [List.length_append, List.length_take]; omega)]
theorem growL {R xs vs : List Value} {m a k : Nat} (h : R.take a = xs.take a) (hx : xs.length = m) (ha : a ≤ m) (hv : vs.length = k) (hc : m + k ≤ R.length) :
    let r1 := R.take a ++ vs ++ R.drop (a + vs.length)
    let r2 := r1.take (a + k) ++ xs.drop a ++ r1.drop (a + k + (xs.drop a).length)
    r1.length = R.length ∧ r2.length = R.length ∧ r2.take (m + k) = xs.take a ++ vs ++ xs.drop a := by
  intro r1 r2
  have e0 : (xs.drop a).length = m - a := by rw [List.length_drop, hx]
  have e1 : r1.length = R.length := by
    simp only [r1, List.length_append, List.length_take, List.length_drop]; omega
  have e2 : r2.length = R.length := by
    simp only [r2, List.length_append, List.length_take, List.length_drop]; omega
  refine ⟨e1, e2, ?_⟩
  have t1 : r1.take (a + k) = xs.take a ++ vs := by
    simp only [r1]
    rw [List.take_left' (by simp only [List.length_append, List.length_take]; omega), h]
  simp only [r2]
  rw [t1, List.take_left' (by simp only [List.length_append, List.length_take]; omega)]
theorem blk_shape {w : World} {g : Nat} {t : TypeId} {cs : Array Value} (h : w.heap[g]? = some (.cells cs t (0, 0))) : w.shape? g = some (t, cs.size) := by simp [World.shape?, h]
theorem blk_clear {w : World} {g : Nat} {t : TypeId} {cs : Array Value} (h : w.heap[g]? = some (.cells cs t (0, 0))) (j : Nat) : w.frozen? ⟨g, j, none⟩ = false := by simp [World.frozen?, h]
/-- One value more at a place. -/
def RetIns (w : World) (base : Nat) (e : TypeId) (K : Nat) (A : Option Addr) (n c : Nat) (xs : List Value) (en : Ending) (w' : World) : Prop :=
  ∃ (A2 : Option Addr) (c2 : Nat), en = .returned (.slice A2 (n + 1) c2) ∧ w'.ownsRow base e K (.slice A2 (n + 1) c2) (n + 1) xs ∧ w.grownBy w' (Value.ownBlock (.slice A n c)) ∧ (Value.ownBlock (.slice A2 (n + 1) c2) = Value.ownBlock (.slice A n c) ∨ Value.ownBlock (.slice A2 (n + 1) c2) = some w.heap.size)
theorem setRow_grown {w : World} {g : Nat} {cs : Array Value} {row : Option Nat} (h : row = some g) : w.grownBy (w.setRow g cs) row := ⟨rfl, rfl, rfl, by simp, fun k _ hk => setRow_other w g k cs (by intro e; subst e; exact hk h.symm)⟩
theorem zero_len (z : Array Value) (k : Nat) (n : Nat) (h : z.size = k) : (Builtin.zeroCells z n).size = n * k := by
  induction n with
  | zero => simp [Builtin.zeroCells]
  | succ n ih =>
    simp only [Builtin.zeroCells] at ih ⊢
    rw [← h]
    simp [Nat.add_mul]
end Go.Proofs.YtlpkngjeihoknaaDoor
