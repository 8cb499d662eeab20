/- The row's list of fsm.table gives the walks' fact on the table. No conditions. -/
import Derived.Test.YthgjknmfghjioaaDoorRows
import Derived.Test.YthgjknmfghjioaaDoorFsm
import Derived.ProofKit
import Derived.OpenShut
import Derived.Lib.LaidTab
namespace Go.Proofs.YthgjknmfghjioaaDoor
open Go.ChangeShapes Go.WideShapes Go.RowKit
theorem gFsm : Tryd.prog.globalNamed "speculum/fsm.table" = some 0 := by kernel_rfl
theorem gFsmType : (Tryd.prog.globals[0]?).map (·.type) = some 93 := by kernel_rfl
theorem fsmLaid_is {H : Type} : (Rows.laid_speculum_fsm_table : DataW H) = .agg (fsmTbl.map fun r => .agg (r.map fun p => .agg [.lit (.int .i64 (p.1 : Int)), .lit (.int .i64 (p.2 : Int))])) := by kernel_rfl
theorem fsmCells {H : Type} {enc : TypeId × Value → H} {w : World} {fuel b : Nat} {sp : Nat → Bool} {held : Bool} {cs : List Value} {p : List MemPlace}
    (h : DataW.trod enc Tryd.prog w b sp held fuel 93 cs = some (Rows.laid_speculum_fsm_table, p)) (s e : Nat) (hs : s < 6) (he : e < 16) :
    cs[s * 32 + e * 2]? = some (.int .i64 ((fsmCell s e).1 : Int)) ∧ cs[s * 32 + e * 2 + 1]? = some (.int .i64 ((fsmCell s e).2 : Int)) := by
  rw [fsmLaid_is] at h
  obtain ⟨xs, m, _, hx, _, hl, hg⟩ := DataW.trod_array Tryd.underlying93 h
  rw [show Tryd.prog.cellsOf 92 = 32 by kernel_rfl] at hg
  have hxs := congrArg Prod.fst hx
  simp only [DataW.agg.injEq] at hxs
  have h1 := hg s hs
  have hrow : fsmTbl[s]? = some (fsmTbl[s]?.getD []) := by
    have hln : fsmTbl.length = 6 := rfl
    rw [List.getElem?_eq_getElem (by omega)]; rfl
  have hx1 : (xs.map (·.1))[s]? = some (.agg ((fsmTbl[s]?.getD []).map fun p => .agg [.lit (.int .i64 (p.1 : Int)), .lit (.int .i64 (p.2 : Int))])) := by
    rw [← hxs, List.getElem?_map, hrow]; rfl
  simp only [List.getElem?_map, Option.map_eq_some_iff] at hx1
  obtain ⟨⟨d1, p1⟩, hy1, hd1⟩ := hx1
  simp only at hd1
  subst hd1
  rw [hy1] at h1
  obtain ⟨ys, m', _, hx', _, hl', hg'⟩ := DataW.trod_array Tryd.underlying92 h1
  rw [show Tryd.prog.cellsOf 91 = 2 by kernel_rfl] at hg'
  have hys := congrArg Prod.fst hx'
  simp only [DataW.agg.injEq] at hys
  have h2 := hg' e he
  have hcell : (fsmTbl[s]?.getD [])[e]? = some (fsmCell s e) := by
    have hln : ∀ s : Fin 6, (fsmTbl[s.val]?.getD []).length = 16 := by decide
    have := hln ⟨s, hs⟩
    simp only at this
    unfold fsmCell
    rw [List.getElem?_eq_getElem (by omega)]; rfl
  have hy2 : (ys.map (·.1))[e]? = some (.agg [.lit (.int .i64 ((fsmCell s e).1 : Int)), .lit (.int .i64 ((fsmCell s e).2 : Int))]) := by
    rw [← hys, List.getElem?_map, hcell]; rfl
  simp only [List.getElem?_map, Option.map_eq_some_iff] at hy2
  obtain ⟨⟨d2, p2⟩, hz2, hd2⟩ := hy2
  simp only at hd2
  subst hd2
  rw [hz2] at h2
  obtain ⟨zs, m'', _, hx'', _, hl'', hg''⟩ := DataW.trod_struct Tryd.underlying91 h2
  have hzs := congrArg Prod.fst hx''
  simp only [DataW.agg.injEq] at hzs
  match zs, hl'', hzs with
  | [z0, z1], _, hzs =>
    simp only [List.map_cons, List.map_nil, List.cons.injEq, and_true] at hzs
    have g0 := hg'' 0 _ rfl
    have g1 := hg'' 1 _ rfl
    obtain ⟨n0, c0, e0, _⟩ := DataW.trod_int Tryd.underlying3 g0
    obtain ⟨n1, c1, e1, _⟩ := DataW.trod_int Tryd.underlying3 g1
    rw [e0, e1] at hzs
    simp only [DataW.lit.injEq, Lit.int.injEq, true_and] at hzs
    obtain ⟨rfl, rfl⟩ := hzs
    have q0 := congrArg (·[0]?) c0
    have q1 := congrArg (·[0]?) c1
    simp only [List.getElem?_take, List.getElem?_drop] at q0 q1
    simp at q0 q1
    exact ⟨q0.2.2, by simpa [Nat.add_assoc] using q1.2.2⟩
theorem fsmTab_of {W : World} (h : laidMetH Tryd.prog [("speculum/fsm.table", Rows.laid_speculum_fsm_table)] W) : FsmTab W := by
  obtain ⟨ps, ⟨g', t', cs, fuel, p, q, hg', ht', hvar, hd, _, _⟩, _⟩ := h
  obtain rfl := Option.some.inj (gFsm.symm.trans hg')
  obtain rfl := Option.some.inj (gFsmType.symm.trans ht')
  intro s e hs he
  have hc := fsmCells hd s e hs he
  refine ⟨(World.var?_cell gFsm hvar _).trans ?_, (World.var?_cell gFsm hvar _).trans ?_⟩
  · rw [← hc.1]; simp
  · rw [← hc.2]; simp
end Go.Proofs.YthgjknmfghjioaaDoor
