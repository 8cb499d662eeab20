/- The row's list of attrs.looks gives the walks' fact on the table. No conditions. -/
import Derived.Test.YthgjknmfghjioaaGreatDoorRows
import Derived.Test.YthgjknmfghjioaaGreatDoorUF8
import Derived.ProofKit
import Derived.OpenShut
import Derived.Lib.LaidTab
namespace Go.Proofs.YthgjknmfghjioaaGreatDoor
open Go.ChangeShapes Go.WideShapes Go.RowKit
theorem gLook : Tryz.prog.globalNamed "speculum/attrs.looks" = some 1 := by kernel_rfl
theorem gLookType : (Tryz.prog.globals[1]?).map (·.type) = some 270 := by kernel_rfl
theorem lookLaid_is {H : Type} : (Rows.laid_speculum_attrs_looks : DataW H) = .agg (lookTbl.map fun p => .agg [.lit (.int .i64 (p.1 : Int)), .lit (.int .i64 (p.2.1 : Int)), .lit (.int .i64 (p.2.2 : Int))]) := by kernel_rfl
theorem lookCells {H : Type} {enc : TypeId × Value → H} {w : World} {fuel b : Nat} {sp : Nat → Bool} {held : Bool} {cs : List Value} {p : List MemPlace}
    (h : DataW.trod enc Tryz.prog w b sp held fuel 270 cs = some (Rows.laid_speculum_attrs_looks, p)) (k : Nat) (hk : k < 19) :
    cs[k * 3]? = some (.int .i64 ((lookAt k).1 : Int)) ∧ cs[k * 3 + 1]? = some (.int .i64 ((lookAt k).2.1 : Int)) ∧ cs[k * 3 + 2]? = some (.int .i64 ((lookAt k).2.2 : Int)) := by
  rw [lookLaid_is] at h
  obtain ⟨xs, m, _, hx, _, hl, hg⟩ := DataW.trod_array Tryz.underlying270 h
  rw [show Tryz.prog.cellsOf 269 = 3 by kernel_rfl] at hg
  have hxs := congrArg Prod.fst hx
  simp only [DataW.agg.injEq] at hxs
  have h1 := hg k hk
  have hcell : lookTbl[k]? = some (lookAt k) := by
    have hln : lookTbl.length = 19 := rfl
    unfold lookAt
    rw [List.getElem?_eq_getElem (by omega)]; rfl
  have hx1 : (xs.map (·.1))[k]? = some (.agg [.lit (.int .i64 ((lookAt k).1 : Int)), .lit (.int .i64 ((lookAt k).2.1 : Int)), .lit (.int .i64 ((lookAt k).2.2 : Int))]) := by
    rw [← hxs, List.getElem?_map, hcell]; rfl
  simp only [List.getElem?_map, Option.map_eq_some_iff] at hx1
  obtain ⟨⟨d1, p1⟩, hy1, hd1⟩ := hx1
  simp only at hd1
  subst hd1
  rw [hy1] at h1
  obtain ⟨zs, m'', _, hx'', _, hl'', hg''⟩ := DataW.trod_struct Tryz.underlying269 h1
  have hzs := congrArg Prod.fst hx''
  simp only [DataW.agg.injEq] at hzs
  match zs, hl'', hzs with
  | [z0, z1, z2], _, hzs =>
    simp only [List.map_cons, List.map_nil, List.cons.injEq, and_true] at hzs
    have g0 := hg'' 0 _ rfl
    have g1 := hg'' 1 _ rfl
    have g2 := hg'' 2 _ rfl
    obtain ⟨n0, c0, e0, _⟩ := DataW.trod_int Tryz.underlying3 g0
    obtain ⟨n1, c1, e1, _⟩ := DataW.trod_int Tryz.underlying3 g1
    obtain ⟨n2, c2, e2, _⟩ := DataW.trod_int Tryz.underlying3 g2
    rw [e0, e1, e2] at hzs
    simp only [DataW.lit.injEq, Lit.int.injEq, true_and] at hzs
    obtain ⟨rfl, rfl, rfl⟩ := hzs
    have q0 := congrArg (·[0]?) c0
    have q1 := congrArg (·[0]?) c1
    have q2 := congrArg (·[0]?) c2
    simp only [List.getElem?_take, List.getElem?_drop] at q0 q1 q2
    simp at q0 q1 q2
    exact ⟨q0.2, by simpa [Nat.add_assoc] using q1.2, by simpa [Nat.add_assoc] using q2.2⟩
theorem lookTab_of {W : World} (h : laidMetH Tryz.prog [("speculum/attrs.looks", Rows.laid_speculum_attrs_looks)] W) : LookTab W := by
  obtain ⟨ps, ⟨g', t', cs, fuel, p, q, hg', ht', hvar, hd, _, _⟩, _⟩ := h
  obtain rfl := Option.some.inj (gLook.symm.trans hg')
  obtain rfl := Option.some.inj (gLookType.symm.trans ht')
  intro k hk
  have hc := lookCells hd k hk
  refine ⟨(World.var?_cell gLook hvar _).trans ?_, (World.var?_cell gLook hvar _).trans ?_, (World.var?_cell gLook hvar _).trans ?_⟩
  · rw [← hc.1]; simp
  · rw [← hc.2.1]; simp
  · rw [← hc.2.2]; simp
theorem look_lt {W : World} (h : LookTab W) : 1 < W.heap.size := lt_of_cell (h 0 (by omega)).1
end Go.Proofs.YthgjknmfghjioaaGreatDoor
