/- Walks of layer 6 (open): what a body says, by the document. No conditions but sizes. -/
import Derived.Test.YtnhkpnohadbcdaaProg
import Derived.WalkKit
import Derived.WalkSpells
import Derived.WalkLawsBesides
import Derived.Outline
import Derived.Deep.QuietTactic
import Derived.BigQuiet
import Derived.Handy
import Derived.Lib.Hide
import Derived.Deep.LoopGhost
import Derived.Deep.DeepCutAuto
import Derived.Deep.CutBlock
import Derived.RegionTactic
import Derived.Test.YtnhkpnohadbcdaaOpnE
import Derived.Test.YtnhkpnohadbcdaaOpnF
namespace Go.Proofs.Ytnhkpnohadbcdaa
open Go.RowKit
set_option linter.unusedSimpArgs false
set_option linter.unusedVariables false
theorem drop_cons {l : List UInt8} {k : Nat} (h : k < l.length) : ∃ b : UInt8, l.drop k = b :: l.drop (k + 1) ∧ b.toNat = lb l k := ⟨l[k], List.drop_eq_getElem_cons h, (lb_eq l k h).symm⟩
/-- One capability, by its place. -/
theorem seg_step {l : List UInt8} {k E : Nat} (hk : k < E) (hE : E ≤ l.length) :
    ((E ≤ k + 1 ∨ E - k - 2 < lb l (k + 1)) → parseC ((l.drop k).take (E - k)) = none) ∧
    (k + 1 < E → lb l (k + 1) ≤ E - k - 2 → ∀ acc, addC acc (parseC ((l.drop k).take (E - k))) = addC (acc ++ [((lb l k : Int), (l.drop (k + 2)).take (lb l (k + 1)))]) (parseC ((l.drop (k + 2 + lb l (k + 1))).take (E - (k + 2 + lb l (k + 1)))))) := by
  obtain ⟨b, e1, hb⟩ := drop_cons (show k < l.length by omega)
  by_cases h1 : E ≤ k + 1
  · refine ⟨fun _ => ?_, fun h => absurd h1 (by omega)⟩
    rw [show E - k = 1 by omega, e1, List.take_succ_cons, List.take_zero, parseC_one]
  · obtain ⟨m, e2, hm⟩ := drop_cons (show k + 1 < l.length by omega)
    have e : (l.drop k).take (E - k) = b :: m :: (l.drop (k + 2)).take (E - k - 2) := by
      rw [e1, e2, show E - k = (E - k - 2) + 1 + 1 by omega, List.take_succ_cons, List.take_succ_cons]
      simp
    have hlen : ((l.drop (k + 2)).take (E - k - 2)).length = E - k - 2 := by rw [List.length_take, List.length_drop]; omega
    refine ⟨fun h => ?_, fun _ h2 acc => ?_⟩
    · rw [e]
      exact parseC_short (by rw [hlen, hm]; omega)
    · rw [e, parseC_step acc (by rw [hlen, hm]; exact h2), hm, hb]
      congr 2
      · rw [List.take_take, Nat.min_eq_left h2]
      · rw [List.drop_take, List.drop_drop, show E - k - 2 - lb l (k + 1) = E - (k + 2 + lb l (k + 1)) by omega]
/-- One parameter, by its place. -/
theorem par_at {l : List UInt8} {i : Nat} (hi : i < l.length) :
    ((l.length ≤ i + 1 ∨ l.length - i - 2 < lb l (i + 1)) → parseP (l.drop i) = .inl 0) ∧
    (i + 1 < l.length → lb l (i + 1) ≤ l.length - i - 2 → (lb l i ≠ 2 → parseP (l.drop i) = .inl 4) ∧
      (lb l i = 2 → parseC ((l.drop (i + 2)).take (lb l (i + 1))) = none → parseP (l.drop i) = .inl 0) ∧
      (lb l i = 2 → ∀ cs, parseC ((l.drop (i + 2)).take (lb l (i + 1))) = some cs → ∀ acc, addP acc (parseP (l.drop i)) = addP (acc ++ cs) (parseP (l.drop (i + 2 + lb l (i + 1)))))) := by
  obtain ⟨b, e1, hb⟩ := drop_cons hi
  by_cases h1 : l.length ≤ i + 1
  · refine ⟨fun _ => ?_, fun h => absurd h1 (by omega)⟩
    rw [e1, List.drop_eq_nil_of_le h1, parseP_one]
  · obtain ⟨m, e2, hm⟩ := drop_cons (show i + 1 < l.length by omega)
    have hlen : (l.drop (i + 2)).length = l.length - i - 2 := by rw [List.length_drop]; omega
    rw [e1, e2]
    refine ⟨fun h => parseP_short (by rw [hlen, hm]; omega), fun _ h2 => ⟨fun h3 => parseP_kind (by rw [hlen, hm]; exact h2) (fun e => h3 (by rw [← hb, e]; rfl)), fun h3 hc => ?_, fun h3 cs hc acc => ?_⟩⟩
    · have hb2 : b = 2 := UInt8.toNat_inj.1 (by rw [hb, h3]; rfl)
      subst hb2
      exact parseP_bad (by rw [hlen, hm]; exact h2) (by rw [hm]; exact hc)
    · have hb2 : b = 2 := UInt8.toNat_inj.1 (by rw [hb, h3]; rfl)
      subst hb2
      rw [parseP_step acc (by rw [hlen, hm]; exact h2) (by rw [hm]; exact hc), hm, List.drop_drop]
/-- Two structs' cells are written. -/
theorem st53 {B : Nat} {a w : World} {R F : Nat} {t u : TypeId} {r0 r1 r2 r3 r4 f0 f1 f2 : Value} (hR : Blk w R t #[r0, r1, r2, r3, r4]) (hF : Blk w F u #[f0, f1, f2]) (hne : R ≠ F) (hb : Below B a w) (h1 : B ≤ R) (h2 : B ≤ F) (x0 x1 x2 x3 x4 y0 y1 y2 : Value) :
    ∀ X, X = (((((((w.setCell ⟨R, 0, none⟩ x0).setCell ⟨R, 1, none⟩ x1).setCell ⟨R, 2, none⟩ x2).setCell ⟨R, 3, none⟩ x3).setCell ⟨R, 4, none⟩ x4).setCell ⟨F, 0, none⟩ y0).setCell ⟨F, 1, none⟩ y1).setCell ⟨F, 2, none⟩ y2 →
      Blk X R t #[x0, x1, x2, x3, x4] ∧ Blk X F u #[y0, y1, y2] ∧ Below B a X ∧ w.heap.size ≤ X.heap.size ∧ ∀ b, b ≠ R → b ≠ F → X.heap[b]? = w.heap[b]? := by
  rintro X rfl
  refine ⟨?_, ?_, ?_, by simp [World.setCell], fun b e1 e2 => ?_⟩
  · have := ((((((((hR.set_ 0 x0).set_ 1 x1).set_ 2 x2).set_ 3 x3).set_ 4 x4).far (p := ⟨F, 0, none⟩) hne y0).far (p := ⟨F, 1, none⟩) hne y1).far (p := ⟨F, 2, none⟩) hne y2)
    simpa using this
  · have hne' : F ≠ R := hne.symm
    have := ((((((((hF.far (p := ⟨R, 0, none⟩) hne' x0).far (p := ⟨R, 1, none⟩) hne' x1).far (p := ⟨R, 2, none⟩) hne' x2).far (p := ⟨R, 3, none⟩) hne' x3).far (p := ⟨R, 4, none⟩) hne' x4).set_ 0 y0).set_ 1 y1).set_ 2 y2)
    simpa using this
  · exact (((((((hb.setCell (p := ⟨R, 0, none⟩) h1 x0).setCell (p := ⟨R, 1, none⟩) h1 x1).setCell (p := ⟨R, 2, none⟩) h1 x2).setCell (p := ⟨R, 3, none⟩) h1 x3).setCell (p := ⟨R, 4, none⟩) h1 x4).setCell (p := ⟨F, 0, none⟩) h2 y0).setCell (p := ⟨F, 1, none⟩) h2 y1).setCell (p := ⟨F, 2, none⟩) h2 y2
  · have k : ∀ (v : World) (o : Nat) (z : Value), (v.setCell ⟨R, o, none⟩ z).heap[b]? = v.heap[b]? := fun v o z => Below.heap_setCell v ⟨R, o, none⟩ z b e1
    have m : ∀ (v : World) (o : Nat) (z : Value), (v.setCell ⟨F, o, none⟩ z).heap[b]? = v.heap[b]? := fun v o z => Below.heap_setCell v ⟨F, o, none⟩ z b e2
    rw [m, m, m, k, k, k, k, k]
theorem boxes4 (w : World) (c1 c2 c3 c4 : Array Value) (t1 t2 t3 t4 : TypeId) : ∃ W, (((w.alloc (.cells c1 t1)).alloc (.cells c2 t2)).alloc (.cells c3 t3)).alloc (.cells c4 t4) = W ∧ Blk W w.heap.size t1 c1 ∧ Blk W (w.heap.size + 1) t2 c2 ∧ Blk W (w.heap.size + 1 + 1) t3 c3 ∧ Blk W (w.heap.size + 1 + 1 + 1) t4 c4 ∧ Below w.heap.size w W := by
  obtain ⟨V, hV, h1, h2, hb⟩ := boxes2 w c1 c2 t1 t2
  have hz : V.heap.size = w.heap.size + 1 + 1 := by rw [← hV]; simp
  obtain ⟨U, hU, h3, h4, hb2⟩ := boxes2 V c3 c4 t3 t4
  rw [hV, hU]
  rw [hz] at h3 h4
  refine ⟨_, rfl, h1.below hb2 (by omega), h2.below hb2 (by omega), h3, h4, btr hb hb2 (by omega)⟩
theorem op_no {x y z u : Int} {A : Option Addr} {n c : Nat} : ∀ (i : Nat) (v : Int), (#[Value.int .i64 x, Value.int .i64 y, Value.int .i64 z, Value.int .u32 u, Value.slice A n c] : Array Value)[i]? ≠ some (Value.int .u8 v) := by
  intro i v
  rcases i with _ | _ | _ | _ | _ | i <;> simp
/-- A document's reader stays where another row that holds no byte is written. -/
theorem rx_far {w : World} {g p : Nat} {l : List UInt8} {s : Bool} {T : TypeId} {cs : Array Value} (h : RX w g l s) (hp : Blk w p T cs) (hno : ∀ (i : Nat) (v : Int), cs[i]? ≠ some (Value.int .u8 v)) (hT : 70 ≠ T) (i : Nat) (u : Value) : RX (w.setCell ⟨p, i, none⟩ u) g l s := by
  obtain ⟨A, n, c, a, F, hb, han, hbs, hn1, hF⟩ := h
  have hg := only_setCell (World.grownBy.refl w (some p)) (p := ⟨p, i, none⟩) (.inl rfl) u
  exact ⟨A, n, c, a, F, hb.grown hg (by intro e; injection e with e; exact Blk.ne_ hb hp hT e), han, hbs.grownAt hg (hbs.apart hp hno), hn1, hF⟩
theorem headOk_long {l : List UInt8} (h : l.length < 10) : headOk l = false := decide_eq_false (by omega)
/-- What the rounds of a document's Read hold. -/
def Doc6 (w wr : World) (ob base v1 v2 v3 v4 : Nat) (acc : List Cap) (A1 : Option Addr) (n1 c1 : Nat) : Prop :=
  Blk wr w.heap.size 25 #[.int .i64 0, .int .i64 0, .int .i64 0, .int .u32 0, .slice none 0 0] ∧ Blk wr (w.heap.size + 1) 36 #[.int .i64 0, .int .i64 0, .slice none 0 0] ∧ Blk wr (w.heap.size + 1 + 1) 25 #[.int .i64 0, .int .i64 0, .int .i64 0, .int .u32 0, .slice none 0 0] ∧ Blk wr (w.heap.size + 1 + 1 + 1) 36 #[.int .i64 2, .int .i64 0, .slice none 0 0] ∧ Blk wr ob 25 #[.int .i64 v1, .int .i64 v2, .int .i64 v3, .int .u32 v4, .slice A1 n1 c1] ∧
  OL rCap 2 wr base 54 base wr.heap.size [ob] A1 n1 c1 acc ∧ Below w.heap.size w wr ∧ base ≤ wr.heap.size
set_option maxHeartbeats 8000000 in
set_option maxRecDepth 100000 in
theorem refRead06 (A : Option Addr) (n c : Nat) (l : List UInt8) (w : World) (h : BS w w.heap.size A n l) (hnc : n ≤ c) (hn : n ≤ 100000) :
    Calls Try.prog 14 #[.slice A n c] w (RetRead w (readO l)) := by
  have hl := h.len
  have HL := Lib.hid hl
  obtain ⟨W, hW, hR, hF, hN, hD, b0⟩ := boxes4 w #[.int .i64 0, .int .i64 0, .int .i64 0, .int .u32 0, .slice none 0 0] #[.int .i64 0, .int .i64 0, .slice none 0 0] #[.int .i64 0, .int .i64 0, .int .i64 0, .int .u32 0, .slice none 0 0] #[.int .i64 2, .int .i64 0, .slice none 0 0] 25 36 25 36
  have hDl := hD.lt
  have HW := Lib.hid hW
  clear hW
  by_cases hlen : n < 10
  · have e1 : decide ((n : Int) < 10) = true := decide_eq_true (by omega)
    have HG := Lib.hid (readO_bad (headOk_long (l := l) (by rw [← hl]; exact hlen)))
    clear hl
    go_enter Try.func14, Try.ntmps14
    go_upto_region 3 with fail
    rw [HW.out]
    have c_hR0 := hR.cell 0
    have f_hR0 := hR.frozen 0
    have c_hR1 := hR.cell 1
    have f_hR1 := hR.frozen 1
    have c_hR2 := hR.cell 2
    have f_hR2 := hR.frozen 2
    have c_hR3 := hR.cell 3
    have f_hR3 := hR.frozen 3
    have c_hR4 := hR.cell 4
    have f_hR4 := hR.frozen 4
    have c_hF0 := hF.cell 0
    have f_hF0 := hF.frozen 0
    have c_hF1 := hF.cell 1
    have f_hF1 := hF.frozen 1
    have c_hF2 := hF.cell 2
    have f_hF2 := hF.frozen 2
    have c_hN0 := hN.cell 0
    have c_hN1 := hN.cell 1
    have c_hN2 := hN.cell 2
    have c_hN3 := hN.cell 3
    have c_hN4 := hN.cell 4
    have c_hD0 := hD.cell 0
    have c_hD1 := hD.cell 1
    have c_hD2 := hD.cell 2
    go_wp2_with fail
    go_region
    go_wp2_with fail
    have HX := st53 hR hF (by omega) b0 (by omega) (by omega) (.int .i64 0) (.int .i64 0) (.int .i64 0) (.int .u32 0) (.slice none 0 0) (.int .i64 2) (.int .i64 0) (.slice none 0 0)
    exact bodyPost_ret (opn_flt_ret rfl _ _ w.heap.size (w.heap.size + 1) _ _ _ _ _ _ _ _ rfl rfl (HX _ rfl).1.drew (HX _ rfl).2.1.drew) rfl ⟨(HX _ rfl).2.2.1.drew, by rw [HG.out]; rfl⟩
  have e1 : decide ((n : Int) < 10) = false := decide_eq_false (by omega)
  obtain ⟨bb, off, rfl, hbb, hb9⟩ := (h.call b0).form (k := 9) (by omega)
  have hl9 := lb_lt l 9
  obtain ⟨x9, hx9⟩ : ∃ x, lb l 9 = x := ⟨_, rfl⟩
  rw [hx9] at hb9 hl9
  have hsub : IntKind.i64.wrap ((n : Int) - 10) = (n : Int) - 10 := IntWalk.i64_in _ ⟨by omega, by omega⟩
  have h9n : (9 : Int) < n := by omega
  have hbW : bb < W.heap.size := hbb
  by_cases hq : (x9 : Int) = (n : Int) - 10
  case neg =>
    have tq : ((x9 : Int) != (n : Int) - 10) = true := ne_true hq
    have HG := Lib.hid (readO_bad (show headOk l = false from decide_eq_false (by rw [hx9]; omega)))
    clear hl hq hx9
    go_enter Try.func14, Try.ntmps14
    go_upto_region 3 with fail
    rw [HW.out]
    have c_hR0 := hR.cell 0
    have f_hR0 := hR.frozen 0
    have c_hR1 := hR.cell 1
    have f_hR1 := hR.frozen 1
    have c_hR2 := hR.cell 2
    have f_hR2 := hR.frozen 2
    have c_hR3 := hR.cell 3
    have f_hR3 := hR.frozen 3
    have c_hR4 := hR.cell 4
    have f_hR4 := hR.frozen 4
    have c_hF0 := hF.cell 0
    have f_hF0 := hF.frozen 0
    have c_hF1 := hF.cell 1
    have f_hF1 := hF.frozen 1
    have c_hF2 := hF.cell 2
    have f_hF2 := hF.frozen 2
    have c_hN0 := hN.cell 0
    have c_hN1 := hN.cell 1
    have c_hN2 := hN.cell 2
    have c_hN3 := hN.cell 3
    have c_hN4 := hN.cell 4
    have c_hD0 := hD.cell 0
    have c_hD1 := hD.cell 1
    have c_hD2 := hD.cell 2
    go_wp2_with fail
    go_region
    go_wp2_with fail
    have HX := st53 hR hF (by omega) b0 (by omega) (by omega) (.int .i64 0) (.int .i64 0) (.int .i64 0) (.int .u32 0) (.slice none 0 0) (.int .i64 2) (.int .i64 0) (.slice none 0 0)
    exact bodyPost_ret (opn_flt_ret rfl _ _ w.heap.size (w.heap.size + 1) _ _ _ _ _ _ _ _ rfl rfl (HX _ rfl).1.drew (HX _ rfl).2.1.drew) rfl ⟨(HX _ rfl).2.2.1.drew, by rw [HG.out]; rfl⟩
  have tq : ((x9 : Int) != (n : Int) - 10) = false := ne_false hq
  have HH := Lib.hid (show headOk l = true from decide_eq_true (by rw [hx9]; omega))
  have hl10 : 10 ≤ l.length := by omega
  obtain ⟨w5, hw5, hX5, hO5, b5⟩ := boxes2 W #[.slice (some ⟨bb, off, none⟩) n c, .int .i64 0, .bool false] #[.int .i64 0, .int .i64 0, .int .i64 0, .int .u32 0, .slice none 0 0] 70 25
  have HW5 := Lib.hid hw5
  have X5 : RX w5 W.heap.size l false := ⟨some ⟨bb, off, none⟩, n, c, 0, l, hX5, by omega, (h.call b0).call b5, hn, rfl⟩
  have T1 := tk_ok (l := l) (k := 1) (by omega)
  have T2 := tk_ok (l := l.drop 1) (k := 2) (by rw [List.length_drop]; omega)
  have T3 := tk_ok (l := l.drop 3) (k := 2) (by rw [List.length_drop]; omega)
  have T4 := tk_ok (l := l.drop 5) (k := 4) (by rw [List.length_drop]; omega)
  rw [List.drop_drop] at T2 T3 T4
  have hv1 : numL (l.take 1) = lb l 0 := lb_take l 0 (by omega)
  have hv4 : numL ((l.drop 5).take 4) < 4294967296 := by have := tkOut_num (l.drop 5) false 4; rw [T4.1] at this; exact this
  obtain ⟨v1, hV1⟩ : ∃ v, lb l 0 = v := ⟨_, rfl⟩
  obtain ⟨v2, hV2⟩ : ∃ v, numL ((l.drop 1).take 2) = v := ⟨_, rfl⟩
  obtain ⟨v3, hV3⟩ : ∃ v, numL ((l.drop 3).take 2) = v := ⟨_, rfl⟩
  obtain ⟨v4, hV4⟩ : ∃ v, numL ((l.drop 5).take 4) = v := ⟨_, rfl⟩
  rw [hV1] at hv1
  rw [hV4] at hv4
  have E1 := Lib.hid (show numL (tkOut l false (1 : Nat)) = v1 ∧ tkLeft l false (1 : Nat) = l.drop 1 ∧ tkShort l false (1 : Nat) = false from ⟨by rw [T1.1]; exact hv1, T1.2.1, T1.2.2⟩)
  have E2 := Lib.hid (show numL (tkOut (l.drop 1) false (2 : Nat)) = v2 ∧ tkLeft (l.drop 1) false (2 : Nat) = l.drop 3 ∧ tkShort (l.drop 1) false (2 : Nat) = false from ⟨by rw [T2.1]; exact hV2, T2.2.1, T2.2.2⟩)
  have E3 := Lib.hid (show numL (tkOut (l.drop 3) false (2 : Nat)) = v3 ∧ tkLeft (l.drop 3) false (2 : Nat) = l.drop 5 ∧ tkShort (l.drop 3) false (2 : Nat) = false from ⟨by rw [T3.1]; exact hV3, T3.2.1, T3.2.2⟩)
  have E4 := Lib.hid (show numL (tkOut (l.drop 5) false (4 : Nat)) = v4 ∧ tkLeft (l.drop 5) false (4 : Nat) = l.drop 9 ∧ tkShort (l.drop 5) false (4 : Nat) = false from ⟨by rw [T4.1]; exact hV4, T4.2.1, T4.2.2⟩)
  have HV := Lib.hid (show ∀ cs, mkOpn l cs = ⟨(v1 : Int), (v2 : Int), (v3 : Int), v4, cs⟩ by intro cs; unfold mkOpn; rw [hV1, hV2, hV3, hV4])
  have w4u : IntKind.u32.wrap (v4 : Int) = v4 := by rw [IntKind.wrap_u32]; omega
  clear T1 T2 T3 T4 hv1 hV1 hV2 hV3 hV4 hl hq hx9 hw5
  have hzW : W.heap.size < w5.heap.size := hX5.lt
  have hzO := hO5.lt
  go_enter Try.func14, Try.ntmps14
  go_upto_region 3 with fail
  rw [HW.out]
  go_upto_region 7 with fail
  rw [HW5.out]
  have b05 := btr b0 b5 b0.size
  have hR5 := hR.below b5 hR.lt
  have hF5 := hF.below b5 hF.lt
  have hN5 := hN.below b5 hN.lt
  have hD5 := hD.below b5 hD.lt
  go_wp2_with fail
  refine (refNum W.heap.size l false 1 _ X5 (by omega)).mono ?_
  rw [E1.out.1, E1.out.2.1, E1.out.2.2]
  rintro _ w6 ⟨rfl, r6, g6⟩
  have z6 := g6.size
  have b06 := at_below b05 g6 b05.size (by omega)
  have hR_6 := hR5.grown g6 (by intro e; injection e with e; omega)
  have hF_6 := hF5.grown g6 (by intro e; injection e with e; omega)
  have hN_6 := hN5.grown g6 (by intro e; injection e with e; omega)
  have hD_6 := hD5.grown g6 (by intro e; injection e with e; omega)
  have hO_6 := hO5.grown g6 (by intro e; injection e with e; omega)
  have c_hO0 := hO_6.cell 0
  have f_hO0 := hO_6.frozen 0
  have c_hO1 := hO_6.cell 1
  have f_hO1 := hO_6.frozen 1
  have c_hO2 := hO_6.cell 2
  have f_hO2 := hO_6.frozen 2
  have c_hO3 := hO_6.cell 3
  have f_hO3 := hO_6.frozen 3
  go_wp2_with fail
  obtain ⟨w7, hw7⟩ : ∃ Wz_, w6.setCell ⟨W.heap.size + 1, 0, none⟩ (.int .i64 v1)= Wz_ := ⟨_, rfl⟩
  have hR_7 := hR_6.far (p := ⟨W.heap.size + 1, 0, none⟩) (by show _ ≠ W.heap.size + 1; omega) (.int .i64 v1)
  have hF_7 := hF_6.far (p := ⟨W.heap.size + 1, 0, none⟩) (by show _ ≠ W.heap.size + 1; omega) (.int .i64 v1)
  have hN_7 := hN_6.far (p := ⟨W.heap.size + 1, 0, none⟩) (by show _ ≠ W.heap.size + 1; omega) (.int .i64 v1)
  have hD_7 := hD_6.far (p := ⟨W.heap.size + 1, 0, none⟩) (by show _ ≠ W.heap.size + 1; omega) (.int .i64 v1)
  have hO_7 := hO_6.set_ 0 (.int .i64 v1)
  simp only [List.setIfInBounds_toArray, List.set_cons_succ, List.set_cons_zero] at hO_7
  have r6_7 := rx_far r6 hO_6 op_no (by decide) 0 (.int .i64 v1)
  have b07 := b06.setCell (p := ⟨W.heap.size + 1, 0, none⟩) (by show _ ≤ W.heap.size + 1; omega) (.int .i64 v1)
  have z_7 : w6.heap.size ≤ w7.heap.size := by rw [← hw7]; simp [World.setCell]
  rw [hw7] at hR_7 hF_7 hN_7 hD_7 hO_7 r6_7 b07
  rw [hw7]
  clear hw7
  clear c_hO0 f_hO0 c_hO1 f_hO1 c_hO2 f_hO2 c_hO3 f_hO3
  clear hR_6
  clear hF_6
  clear hN_6
  clear hD_6
  clear hO_6
  have c_hO0 := hO_7.cell 0
  have f_hO0 := hO_7.frozen 0
  have c_hO1 := hO_7.cell 1
  have f_hO1 := hO_7.frozen 1
  have c_hO2 := hO_7.cell 2
  have f_hO2 := hO_7.frozen 2
  have c_hO3 := hO_7.cell 3
  have f_hO3 := hO_7.frozen 3
  refine (refNum W.heap.size (l.drop 1) false 2 _ r6_7 (by omega)).mono ?_
  rw [E2.out.1, E2.out.2.1, E2.out.2.2]
  rintro _ w8 ⟨rfl, r8, g8⟩
  clear c_hO0 f_hO0 c_hO1 f_hO1 c_hO2 f_hO2 c_hO3 f_hO3
  have z8 := g8.size
  have b08 := at_below b07 g8 b07.size (by omega)
  have hR_8 := hR_7.grown g8 (by intro e; injection e with e; omega)
  clear hR_7
  have hF_8 := hF_7.grown g8 (by intro e; injection e with e; omega)
  clear hF_7
  have hN_8 := hN_7.grown g8 (by intro e; injection e with e; omega)
  clear hN_7
  have hD_8 := hD_7.grown g8 (by intro e; injection e with e; omega)
  clear hD_7
  have hO_8 := hO_7.grown g8 (by intro e; injection e with e; omega)
  clear hO_7
  have c_hO0 := hO_8.cell 0
  have f_hO0 := hO_8.frozen 0
  have c_hO1 := hO_8.cell 1
  have f_hO1 := hO_8.frozen 1
  have c_hO2 := hO_8.cell 2
  have f_hO2 := hO_8.frozen 2
  have c_hO3 := hO_8.cell 3
  have f_hO3 := hO_8.frozen 3
  go_wp2_with fail
  obtain ⟨w9, hw9⟩ : ∃ Wz_, w8.setCell ⟨W.heap.size + 1, 1, none⟩ (.int .i64 v2)= Wz_ := ⟨_, rfl⟩
  have hR_9 := hR_8.far (p := ⟨W.heap.size + 1, 1, none⟩) (by show _ ≠ W.heap.size + 1; omega) (.int .i64 v2)
  have hF_9 := hF_8.far (p := ⟨W.heap.size + 1, 1, none⟩) (by show _ ≠ W.heap.size + 1; omega) (.int .i64 v2)
  have hN_9 := hN_8.far (p := ⟨W.heap.size + 1, 1, none⟩) (by show _ ≠ W.heap.size + 1; omega) (.int .i64 v2)
  have hD_9 := hD_8.far (p := ⟨W.heap.size + 1, 1, none⟩) (by show _ ≠ W.heap.size + 1; omega) (.int .i64 v2)
  have hO_9 := hO_8.set_ 1 (.int .i64 v2)
  simp only [List.setIfInBounds_toArray, List.set_cons_succ, List.set_cons_zero] at hO_9
  have r8_9 := rx_far r8 hO_8 op_no (by decide) 1 (.int .i64 v2)
  have b09 := b08.setCell (p := ⟨W.heap.size + 1, 1, none⟩) (by show _ ≤ W.heap.size + 1; omega) (.int .i64 v2)
  have z_9 : w8.heap.size ≤ w9.heap.size := by rw [← hw9]; simp [World.setCell]
  rw [hw9] at hR_9 hF_9 hN_9 hD_9 hO_9 r8_9 b09
  rw [hw9]
  clear hw9
  clear c_hO0 f_hO0 c_hO1 f_hO1 c_hO2 f_hO2 c_hO3 f_hO3
  clear hR_8
  clear hF_8
  clear hN_8
  clear hD_8
  clear hO_8
  have c_hO0 := hO_9.cell 0
  have f_hO0 := hO_9.frozen 0
  have c_hO1 := hO_9.cell 1
  have f_hO1 := hO_9.frozen 1
  have c_hO2 := hO_9.cell 2
  have f_hO2 := hO_9.frozen 2
  have c_hO3 := hO_9.cell 3
  have f_hO3 := hO_9.frozen 3
  refine (refNum W.heap.size (l.drop 3) false 2 _ r8_9 (by omega)).mono ?_
  rw [E3.out.1, E3.out.2.1, E3.out.2.2]
  rintro _ w10 ⟨rfl, r10, g10⟩
  clear c_hO0 f_hO0 c_hO1 f_hO1 c_hO2 f_hO2 c_hO3 f_hO3
  have z10 := g10.size
  have b010 := at_below b09 g10 b09.size (by omega)
  have hR_10 := hR_9.grown g10 (by intro e; injection e with e; omega)
  clear hR_9
  have hF_10 := hF_9.grown g10 (by intro e; injection e with e; omega)
  clear hF_9
  have hN_10 := hN_9.grown g10 (by intro e; injection e with e; omega)
  clear hN_9
  have hD_10 := hD_9.grown g10 (by intro e; injection e with e; omega)
  clear hD_9
  have hO_10 := hO_9.grown g10 (by intro e; injection e with e; omega)
  clear hO_9
  have c_hO0 := hO_10.cell 0
  have f_hO0 := hO_10.frozen 0
  have c_hO1 := hO_10.cell 1
  have f_hO1 := hO_10.frozen 1
  have c_hO2 := hO_10.cell 2
  have f_hO2 := hO_10.frozen 2
  have c_hO3 := hO_10.cell 3
  have f_hO3 := hO_10.frozen 3
  go_wp2_with fail
  obtain ⟨w11, hw11⟩ : ∃ Wz_, w10.setCell ⟨W.heap.size + 1, 2, none⟩ (.int .i64 v3)= Wz_ := ⟨_, rfl⟩
  have hR_11 := hR_10.far (p := ⟨W.heap.size + 1, 2, none⟩) (by show _ ≠ W.heap.size + 1; omega) (.int .i64 v3)
  have hF_11 := hF_10.far (p := ⟨W.heap.size + 1, 2, none⟩) (by show _ ≠ W.heap.size + 1; omega) (.int .i64 v3)
  have hN_11 := hN_10.far (p := ⟨W.heap.size + 1, 2, none⟩) (by show _ ≠ W.heap.size + 1; omega) (.int .i64 v3)
  have hD_11 := hD_10.far (p := ⟨W.heap.size + 1, 2, none⟩) (by show _ ≠ W.heap.size + 1; omega) (.int .i64 v3)
  have hO_11 := hO_10.set_ 2 (.int .i64 v3)
  simp only [List.setIfInBounds_toArray, List.set_cons_succ, List.set_cons_zero] at hO_11
  have r10_11 := rx_far r10 hO_10 op_no (by decide) 2 (.int .i64 v3)
  have b011 := b010.setCell (p := ⟨W.heap.size + 1, 2, none⟩) (by show _ ≤ W.heap.size + 1; omega) (.int .i64 v3)
  have z_11 : w10.heap.size ≤ w11.heap.size := by rw [← hw11]; simp [World.setCell]
  rw [hw11] at hR_11 hF_11 hN_11 hD_11 hO_11 r10_11 b011
  rw [hw11]
  clear hw11
  clear c_hO0 f_hO0 c_hO1 f_hO1 c_hO2 f_hO2 c_hO3 f_hO3
  clear hR_10
  clear hF_10
  clear hN_10
  clear hD_10
  clear hO_10
  have c_hO0 := hO_11.cell 0
  have f_hO0 := hO_11.frozen 0
  have c_hO1 := hO_11.cell 1
  have f_hO1 := hO_11.frozen 1
  have c_hO2 := hO_11.cell 2
  have f_hO2 := hO_11.frozen 2
  have c_hO3 := hO_11.cell 3
  have f_hO3 := hO_11.frozen 3
  refine (refNum W.heap.size (l.drop 5) false 4 _ r10_11 (by omega)).mono ?_
  rw [E4.out.1, E4.out.2.1, E4.out.2.2]
  rintro _ w12 ⟨rfl, r12, g12⟩
  clear c_hO0 f_hO0 c_hO1 f_hO1 c_hO2 f_hO2 c_hO3 f_hO3
  have z12 := g12.size
  have b012 := at_below b011 g12 b011.size (by omega)
  have hR_12 := hR_11.grown g12 (by intro e; injection e with e; omega)
  clear hR_11
  have hF_12 := hF_11.grown g12 (by intro e; injection e with e; omega)
  clear hF_11
  have hN_12 := hN_11.grown g12 (by intro e; injection e with e; omega)
  clear hN_11
  have hD_12 := hD_11.grown g12 (by intro e; injection e with e; omega)
  clear hD_11
  have hO_12 := hO_11.grown g12 (by intro e; injection e with e; omega)
  clear hO_11
  have c_hO0 := hO_12.cell 0
  have f_hO0 := hO_12.frozen 0
  have c_hO1 := hO_12.cell 1
  have f_hO1 := hO_12.frozen 1
  have c_hO2 := hO_12.cell 2
  have f_hO2 := hO_12.frozen 2
  have c_hO3 := hO_12.cell 3
  have f_hO3 := hO_12.frozen 3
  go_wp2_with fail
  obtain ⟨w13, hw13⟩ : ∃ Wz_, w12.setCell ⟨W.heap.size + 1, 3, none⟩ (.int .u32 v4)= Wz_ := ⟨_, rfl⟩
  have hR_13 := hR_12.far (p := ⟨W.heap.size + 1, 3, none⟩) (by show _ ≠ W.heap.size + 1; omega) (.int .u32 v4)
  have hF_13 := hF_12.far (p := ⟨W.heap.size + 1, 3, none⟩) (by show _ ≠ W.heap.size + 1; omega) (.int .u32 v4)
  have hN_13 := hN_12.far (p := ⟨W.heap.size + 1, 3, none⟩) (by show _ ≠ W.heap.size + 1; omega) (.int .u32 v4)
  have hD_13 := hD_12.far (p := ⟨W.heap.size + 1, 3, none⟩) (by show _ ≠ W.heap.size + 1; omega) (.int .u32 v4)
  have hO_13 := hO_12.set_ 3 (.int .u32 v4)
  simp only [List.setIfInBounds_toArray, List.set_cons_succ, List.set_cons_zero] at hO_13
  have b013 := b012.setCell (p := ⟨W.heap.size + 1, 3, none⟩) (by show _ ≤ W.heap.size + 1; omega) (.int .u32 v4)
  have z_13 : w12.heap.size ≤ w13.heap.size := by rw [← hw13]; simp [World.setCell]
  rw [hw13] at hR_13 hF_13 hN_13 hD_13 hO_13 b013
  rw [hw13]
  clear hw13
  clear c_hO0 f_hO0 c_hO1 f_hO1 c_hO2 f_hO2 c_hO3 f_hO3
  clear hR_12
  clear hF_12
  clear hN_12
  clear hD_12
  clear hO_12
  have c_hO0 := hO_13.cell 0
  have f_hO0 := hO_13.frozen 0
  have c_hO1 := hO_13.cell 1
  have f_hO1 := hO_13.frozen 1
  have c_hO2 := hO_13.cell 2
  have f_hO2 := hO_13.frozen 2
  have c_hO3 := hO_13.cell 3
  have f_hO3 := hO_13.frozen 3
  clear c_hO0 c_hO1 c_hO2 c_hO3 f_hO0 f_hO1 f_hO2 f_hO3
  have hOl := hO_13.lt
  have hob : w.heap.size + 1 + 1 + 1 < W.heap.size + 1 := by have := hDl; omega
  obtain ⟨ob, hobe⟩ : ∃ ob, W.heap.size + 1 = ob := ⟨_, rfl⟩
  have hOO := hO_13
  rw [hobe] at hOO hOl hob
  rw [hobe]
  have hz12 : ob < w12.heap.size := by have := hzO; omega
  have D0 : Doc6 w w13 ob w13.heap.size v1 v2 v3 v4 [] none 0 0 := ⟨hR_13, hF_13, hN_13, hD_13, hOO, OL.nil_, b013, Nat.le_refl _⟩
  have hBW := (h.call b0)
  have HN10 := Lib.hid hn
  go_loopw [8] (fun x wr => ∃ (i : Nat) (acc : List Cap) (A1 : Option Addr) (n1 c1 : Nat), 10 ≤ i ∧ i ≤ n ∧ acc.length ≤ i ∧ x = .int .i64 i ∧ Doc6 w wr ob w13.heap.size v1 v2 v3 v4 acc A1 n1 c1 ∧ Hid (parseP (l.drop 10) = addP acc (parseP (l.drop i)))) (fun x _ => n - (intOf x).toNat)
  case atStart => exact ⟨10, [], none, 0, 0, Nat.le_refl _, by have := HL.out; omega, by simp, rfl, D0, Lib.hid (addP_nil _).symm⟩
  case round =>
    obtain ⟨i, acc, A1, n1, c1, h10, hin, hal, rfl, hD6, hp⟩ := hrel
    obtain ⟨wo, rfl⟩ : ∃ wo : World, wo = wr := ⟨_, rfl⟩
    have hBk := (h.call hD6.2.2.2.2.2.2.1)
    by_cases hlt : i < n
    case neg =>
      have hiE : i = n := by omega
      have d0 : decide ((i : Int) < n) = false := decide_eq_false (by omega)
      obtain ⟨hR, hF, hN, hD, hO, hOL, hb, hzz⟩ := hD6
      have HG := Lib.hid (show readO l = .inr (mkOpn l acc) from readO_ok HH.out (by rw [hp.out, hiE, HL.out, List.drop_length, parseP_nil]; simp [addP]))
      have hd := hOL.dlU rCap_ok
      have hcap := hOL.cap
      clear hiE
      have c_hR0 := hR.cell 0
      have f_hR0 := hR.frozen 0
      have c_hR1 := hR.cell 1
      have f_hR1 := hR.frozen 1
      have c_hR2 := hR.cell 2
      have f_hR2 := hR.frozen 2
      have c_hR3 := hR.cell 3
      have f_hR3 := hR.frozen 3
      have c_hR4 := hR.cell 4
      have f_hR4 := hR.frozen 4
      have c_hF0 := hF.cell 0
      have f_hF0 := hF.frozen 0
      have c_hF1 := hF.cell 1
      have f_hF1 := hF.frozen 1
      have c_hF2 := hF.cell 2
      have f_hF2 := hF.frozen 2
      have c_hO0 := hO.cell 0
      have c_hO1 := hO.cell 1
      have c_hO2 := hO.cell 2
      have c_hO3 := hO.cell 3
      have c_hO4 := hO.cell 4
      rename_i hk
      have HK := Lib.hid hk
      clear hk
      go_wp2_with fail
      refine HK.out _ _ ?_
      clear HK
      go_upto_region 27 with fail
      rename_i hk
      have HK := Lib.hid hk
      clear hk
      go_wp2_with fail
      refine HK.out _ _ (wp_ret ?_)
      have HX := st53 hR hF (by omega) hb (by omega) (by omega) (.int .i64 v1) (.int .i64 v2) (.int .i64 v3) (.int .u32 v4) (.slice A1 n1 c1) (.int .i64 0) (.int .i64 0) (.slice none 0 0)
      refine bodyPost_ret (opn_flt_ret rfl _ _ w.heap.size (w.heap.size + 1) _ _ _ _ _ _ _ _ rfl rfl (HX _ rfl).1 (HX _ rfl).2.1) rfl ⟨(HX _ rfl).2.2.1, ?_⟩
      rw [HG.out, HV.out acc]
      exact ⟨A1, n1, c1, rfl, hd.keep rCap_ok (fun b hb => ⟨Nat.lt_of_lt_of_le hb.2.1 (HX _ rfl).2.2.2.1, (HX _ rfl).2.2.2.2 b (by have := hb.1; omega) (by have := hb.1; omega)⟩), hcap⟩
    have d0 : decide ((i : Int) < n) = true := decide_eq_true (by omega)
    have hPA := par_at (l := l) (i := i) (by rw [← HL.out]; exact hlt)
    rw [← HL.out] at hPA
    by_cases h1 : n ≤ i + 1
    · have d1 : decide ((n : Int) ≤ (i : Int) + 1) = true := decide_eq_true (by omega)
      obtain ⟨hR, hF, hN, hD, hO, hOL, hb, hzz⟩ := hD6
      have HG := Lib.hid (show readO l = .inl 0 from readO_par HH.out (by rw [hp.out, hPA.1 (.inl h1)]; rfl))
      clear hPA
      have c_hR0 := hR.cell 0
      have f_hR0 := hR.frozen 0
      have c_hR1 := hR.cell 1
      have f_hR1 := hR.frozen 1
      have c_hR2 := hR.cell 2
      have f_hR2 := hR.frozen 2
      have c_hR3 := hR.cell 3
      have f_hR3 := hR.frozen 3
      have c_hR4 := hR.cell 4
      have f_hR4 := hR.frozen 4
      have c_hF0 := hF.cell 0
      have f_hF0 := hF.frozen 0
      have c_hF1 := hF.cell 1
      have f_hF1 := hF.frozen 1
      have c_hF2 := hF.cell 2
      have f_hF2 := hF.frozen 2
      have c_hN0 := hN.cell 0
      have c_hN1 := hN.cell 1
      have c_hN2 := hN.cell 2
      have c_hN3 := hN.cell 3
      have c_hN4 := hN.cell 4
      have c_hD0 := hD.cell 0
      have c_hD1 := hD.cell 1
      have c_hD2 := hD.cell 2
      go_wp2_with fail
      go_region
      rename_i hk
      refine hk _ _ (wp_ret ?_)
      have HX := st53 hR hF (by omega) hb (by omega) (by omega) (.int .i64 0) (.int .i64 0) (.int .i64 0) (.int .u32 0) (.slice none 0 0) (.int .i64 2) (.int .i64 0) (.slice none 0 0)
      exact bodyPost_ret (opn_flt_ret rfl _ _ w.heap.size (w.heap.size + 1) _ _ _ _ _ _ _ _ rfl rfl (HX _ rfl).1.drew (HX _ rfl).2.1.drew) rfl ⟨(HX _ rfl).2.2.1.drew, by rw [HG.out]; rfl⟩
    have d1 : decide ((n : Int) ≤ (i : Int) + 1) = false := decide_eq_false (by omega)
    obtain ⟨bx1, ox1, e0, hx1, hm1⟩ := hBk.form (k := i + 1) (by omega)
    injection e0 with e0
    injection e0 with e01 e02 e03
    clear e03
    subst e01 e02
    obtain ⟨bx0, ox0, e0, hx0, hm0⟩ := hBk.form (k := i) (by omega)
    injection e0 with e0
    injection e0 with e01 e02 e03
    clear e03
    subst e01 e02
    have hm1l := lb_lt l (i + 1)
    have hm0l := lb_lt l i
    obtain ⟨m, hm⟩ : ∃ m, lb l (i + 1) = m := ⟨_, rfl⟩
    obtain ⟨y, hy⟩ : ∃ y, lb l i = y := ⟨_, rfl⟩
    rw [hm] at hm1 hm1l hPA
    rw [hy] at hm0 hm0l hPA
    by_cases h2 : n - i - 2 < m
    · have d2 : decide ((n : Int) - (i : Int) - 2 < (m : Int)) = true := decide_eq_true (by omega)
      obtain ⟨hR, hF, hN, hD, hO, hOL, hb, hzz⟩ := hD6
      have HG := Lib.hid (show readO l = .inl 0 from readO_par HH.out (by rw [hp.out, hPA.1 (.inr h2)]; rfl))
      clear hPA
      have c_hR0 := hR.cell 0
      have f_hR0 := hR.frozen 0
      have c_hR1 := hR.cell 1
      have f_hR1 := hR.frozen 1
      have c_hR2 := hR.cell 2
      have f_hR2 := hR.frozen 2
      have c_hR3 := hR.cell 3
      have f_hR3 := hR.frozen 3
      have c_hR4 := hR.cell 4
      have f_hR4 := hR.frozen 4
      have c_hF0 := hF.cell 0
      have f_hF0 := hF.frozen 0
      have c_hF1 := hF.cell 1
      have f_hF1 := hF.frozen 1
      have c_hF2 := hF.cell 2
      have f_hF2 := hF.frozen 2
      have c_hN0 := hN.cell 0
      have c_hN1 := hN.cell 1
      have c_hN2 := hN.cell 2
      have c_hN3 := hN.cell 3
      have c_hN4 := hN.cell 4
      have c_hD0 := hD.cell 0
      have c_hD1 := hD.cell 1
      have c_hD2 := hD.cell 2
      go_wp2_with fail
      go_region
      rename_i hk
      refine hk _ _ (wp_ret ?_)
      have HX := st53 hR hF (by omega) hb (by omega) (by omega) (.int .i64 0) (.int .i64 0) (.int .i64 0) (.int .u32 0) (.slice none 0 0) (.int .i64 2) (.int .i64 0) (.slice none 0 0)
      exact bodyPost_ret (opn_flt_ret rfl _ _ w.heap.size (w.heap.size + 1) _ _ _ _ _ _ _ _ rfl rfl (HX _ rfl).1.drew (HX _ rfl).2.1.drew) rfl ⟨(HX _ rfl).2.2.1.drew, by rw [HG.out]; rfl⟩
    have d2 : decide ((n : Int) - (i : Int) - 2 < (m : Int)) = false := decide_eq_false (by omega)
    have hPB := hPA.2 (by omega) (by omega)
    clear hPA
    by_cases h3 : (y : Int) = 2
    case neg =>
      have t3 : ((y : Int) != 2) = true := ne_true h3
      obtain ⟨hR, hF, hN, hD, hO, hOL, hb, hzz⟩ := hD6
      have HG := Lib.hid (show readO l = .inl 4 from readO_par HH.out (by rw [hp.out, hPB.1 (by omega)]; rfl))
      clear hPB
      have c_hR0 := hR.cell 0
      have f_hR0 := hR.frozen 0
      have c_hR1 := hR.cell 1
      have f_hR1 := hR.frozen 1
      have c_hR2 := hR.cell 2
      have f_hR2 := hR.frozen 2
      have c_hR3 := hR.cell 3
      have f_hR3 := hR.frozen 3
      have c_hR4 := hR.cell 4
      have f_hR4 := hR.frozen 4
      have c_hF0 := hF.cell 0
      have f_hF0 := hF.frozen 0
      have c_hF1 := hF.cell 1
      have f_hF1 := hF.frozen 1
      have c_hF2 := hF.cell 2
      have f_hF2 := hF.frozen 2
      have c_hN0 := hN.cell 0
      have c_hN1 := hN.cell 1
      have c_hN2 := hN.cell 2
      have c_hN3 := hN.cell 3
      have c_hN4 := hN.cell 4
      go_upto_region 16 with fail
      rename_i hk
      have HK := Lib.hid hk
      clear hk
      go_wp2_with fail
      refine HK.out _ _ (wp_ret ?_)
      have HX := st53 hR hF (by omega) hb (by omega) (by omega) (.int .i64 0) (.int .i64 0) (.int .i64 0) (.int .u32 0) (.slice none 0 0) (.int .i64 2) (.int .i64 4) (.slice none 0 0)
      exact bodyPost_ret (opn_flt_ret rfl _ _ w.heap.size (w.heap.size + 1) _ _ _ _ _ _ _ _ rfl rfl (HX _ rfl).1 (HX _ rfl).2.1) rfl ⟨(HX _ rfl).2.2.1, by rw [HG.out]; rfl⟩
    have t3 : ((y : Int) != 2) = false := ne_false h3
    have HPB := Lib.hid (hPB.2 |>.imp (fun h => h (by omega)) (fun h => h (by omega)))
    clear hPB h3
    obtain ⟨E, hE⟩ : ∃ E, i + 2 + m = E := ⟨_, rfl⟩
    have hEi : (i : Int) + 2 + (m : Int) = (E : Int) := by omega
    go_wp2_with fail
    go_loopw [10] (fun x wr => ∃ (k : Nat) (ac2 : List Cap) (A2 : Option Addr) (n2 c2 : Nat), i + 2 ≤ k ∧ k ≤ E ∧ (acc ++ ac2).length ≤ k ∧ x = .int .i64 k ∧ Doc6 w wr ob w13.heap.size v1 v2 v3 v4 (acc ++ ac2) A2 n2 c2 ∧ Hid (parseC ((l.drop (i + 2)).take m) = addC ac2 (parseC ((l.drop k).take (E - k))))) (fun x _ => E - (intOf x).toNat)
    case atStart => exact ⟨i + 2, [], A1, n1, c1, Nat.le_refl _, by omega, by simp; omega, by go_num, by simpa using hD6, Lib.hid (by rw [addC_nil, show E - (i + 2) = m by omega])⟩
    case round =>
      obtain ⟨k, ac2, A2, n2, c2, hk1, hk2, hk3, rfl, hD7, hp2⟩ := hrel
      obtain ⟨wk, rfl⟩ : ∃ wk : World, wk = wr := ⟨_, rfl⟩
      have hBk2 := (h.call hD7.2.2.2.2.2.2.1)
      by_cases hke : k < E
      case neg =>
        have dk : decide ((k : Int) < (E : Int)) = false := decide_eq_false (by omega)
        have HC := Lib.hid (show parseC ((l.drop (i + 2)).take m) = some ac2 by rw [hp2.out, show E - k = 0 by omega, List.take_zero, parseC_nil]; simp [addC])
        go_wp2_with fail
        go_roundw
        case rel => exact ⟨E, acc ++ ac2, A2, n2, c2, by omega, by omega, by omega, by go_num, hD7, Lib.hid (by rw [hp.out, HPB.out.2 ac2 HC.out acc, hE])⟩
        case measure => simp [intOf]; omega
      have dk : decide ((k : Int) < (E : Int)) = true := decide_eq_true (by omega)
      have hSG := seg_step (l := l) hke (show E ≤ l.length by rw [← HL.out]; omega)
      by_cases g1 : E ≤ k + 1
      · have dg : decide ((E : Int) ≤ (k : Int) + 1) = true := decide_eq_true (by omega)
        obtain ⟨hR, hF, hN, hD, hO, hOL, hb, hzz⟩ := hD7
        have HG := Lib.hid (show readO l = .inl 0 from readO_par HH.out (by rw [hp.out, HPB.out.1 (by rw [hp2.out, hSG.1 (.inl g1)]; rfl)]; rfl))
        clear hSG
        have c_hR0 := hR.cell 0
        have f_hR0 := hR.frozen 0
        have c_hR1 := hR.cell 1
        have f_hR1 := hR.frozen 1
        have c_hR2 := hR.cell 2
        have f_hR2 := hR.frozen 2
        have c_hR3 := hR.cell 3
        have f_hR3 := hR.frozen 3
        have c_hR4 := hR.cell 4
        have f_hR4 := hR.frozen 4
        have c_hF0 := hF.cell 0
        have f_hF0 := hF.frozen 0
        have c_hF1 := hF.cell 1
        have f_hF1 := hF.frozen 1
        have c_hF2 := hF.cell 2
        have f_hF2 := hF.frozen 2
        have c_hN0 := hN.cell 0
        have c_hN1 := hN.cell 1
        have c_hN2 := hN.cell 2
        have c_hN3 := hN.cell 3
        have c_hN4 := hN.cell 4
        have c_hD0 := hD.cell 0
        have c_hD1 := hD.cell 1
        have c_hD2 := hD.cell 2
        go_wp2_with fail
        go_region
        rename_i hk
        refine hk _ _ (wp_ret ?_)
        have HX := st53 hR hF (by omega) hb (by omega) (by omega) (.int .i64 0) (.int .i64 0) (.int .i64 0) (.int .u32 0) (.slice none 0 0) (.int .i64 2) (.int .i64 0) (.slice none 0 0)
        exact bodyPost_ret (opn_flt_ret rfl _ _ w.heap.size (w.heap.size + 1) _ _ _ _ _ _ _ _ rfl rfl (HX _ rfl).1.drew (HX _ rfl).2.1.drew) rfl ⟨(HX _ rfl).2.2.1.drew, by rw [HG.out]; rfl⟩
      have dg : decide ((E : Int) ≤ (k : Int) + 1) = false := decide_eq_false (by omega)
      obtain ⟨bx3, ox3, e3, hx3, hm3⟩ := hBk2.form (k := k + 1) (by omega)
      injection e3 with e3
      injection e3 with e31 e32 e33
      clear e33
      subst e31 e32
      obtain ⟨bx2, ox2, e2, hx2, hm2⟩ := hBk2.form (k := k) (by omega)
      injection e2 with e2
      injection e2 with e21 e22 e23
      clear e23
      subst e21 e22
      have hm3l := lb_lt l (k + 1)
      have hm2l := lb_lt l k
      obtain ⟨m2, hmm⟩ : ∃ m, lb l (k + 1) = m := ⟨_, rfl⟩
      obtain ⟨y2, hyy⟩ : ∃ y, lb l k = y := ⟨_, rfl⟩
      rw [hmm] at hm3 hm3l hSG
      rw [hyy] at hm2 hm2l hSG
      by_cases g2 : E - k - 2 < m2
      · have dg2 : decide ((E : Int) - (k : Int) - 2 < (m2 : Int)) = true := decide_eq_true (by omega)
        obtain ⟨hR, hF, hN, hD, hO, hOL, hb, hzz⟩ := hD7
        have HG := Lib.hid (show readO l = .inl 0 from readO_par HH.out (by rw [hp.out, HPB.out.1 (by rw [hp2.out, hSG.1 (.inr g2)]; rfl)]; rfl))
        clear hSG
        have c_hR0 := hR.cell 0
        have f_hR0 := hR.frozen 0
        have c_hR1 := hR.cell 1
        have f_hR1 := hR.frozen 1
        have c_hR2 := hR.cell 2
        have f_hR2 := hR.frozen 2
        have c_hR3 := hR.cell 3
        have f_hR3 := hR.frozen 3
        have c_hR4 := hR.cell 4
        have f_hR4 := hR.frozen 4
        have c_hF0 := hF.cell 0
        have f_hF0 := hF.frozen 0
        have c_hF1 := hF.cell 1
        have f_hF1 := hF.frozen 1
        have c_hF2 := hF.cell 2
        have f_hF2 := hF.frozen 2
        have c_hN0 := hN.cell 0
        have c_hN1 := hN.cell 1
        have c_hN2 := hN.cell 2
        have c_hN3 := hN.cell 3
        have c_hN4 := hN.cell 4
        have c_hD0 := hD.cell 0
        have c_hD1 := hD.cell 1
        have c_hD2 := hD.cell 2
        go_wp2_with fail
        go_region
        rename_i hk
        refine hk _ _ (wp_ret ?_)
        have HX := st53 hR hF (by omega) hb (by omega) (by omega) (.int .i64 0) (.int .i64 0) (.int .i64 0) (.int .u32 0) (.slice none 0 0) (.int .i64 2) (.int .i64 0) (.slice none 0 0)
        exact bodyPost_ret (opn_flt_ret rfl _ _ w.heap.size (w.heap.size + 1) _ _ _ _ _ _ _ _ rfl rfl (HX _ rfl).1.drew (HX _ rfl).2.1.drew) rfl ⟨(HX _ rfl).2.2.1.drew, by rw [HG.out]; rfl⟩
      have dg2 : decide ((E : Int) - (k : Int) - 2 < (m2 : Int)) = false := decide_eq_false (by omega)
      have HSG := Lib.hid (hSG.2 (by omega) (by omega))
      clear hSG
      obtain ⟨hR, hF, hN, hD, hO, hOL, hb, hzz⟩ := hD7
      have hkn : (k : Int) < (n : Int) := by omega
      have hkn1 : (k : Int) + 1 < (n : Int) := by omega
      go_upto_region 22 with fail
      rename_i hk
      have HK := Lib.hid hk
      clear hk
      go_wp2_with fail
      obtain ⟨wc, hwc, hC, bc⟩ := box1c wk #[.int .i64 y2, .slice none 0 0] 54
      have hCz : wc.heap.size = wk.heap.size + 1 := by rw [← hwc]; simp
      rw [hwc]
      refine HK.out _ _ ?_
      clear HK
      clear hwc
      have mb := (bc.cell (p := ⟨bb, off + (k + 1), none⟩) hx2).trans hm3
      have hCl := hC.lt
      have hwcz : wc.heap.size = wk.heap.size + 1 := hCz
      have wk2 : IntKind.i64.wrap ((k : Int) + 2) = (k : Int) + 2 := IntWalk.i64_in _ ⟨by omega, by omega⟩
      have wk1 : IntKind.i64.wrap ((k : Int) + 1) = (k : Int) + 1 := IntWalk.i64_in _ ⟨by omega, by omega⟩
      have wk3 : IntKind.i64.wrap ((k : Int) + 2 + (m2 : Int)) = (k : Int) + 2 + (m2 : Int) := IntWalk.i64_in _ ⟨by omega, by omega⟩
      have sk0 : (0 : Int) ≤ (k : Int) + 1 := by omega
      have sk1 : (0 : Int) ≤ (k : Int) + 2 := by omega
      have sk2 : (k : Int) + 2 ≤ (k : Int) + 2 + (m2 : Int) := by omega
      have sk3 : (k : Int) + 2 + (m2 : Int) ≤ (c : Int) := by omega
      have sk4 : ((k : Int) + 2).toNat = k + 2 := by omega
      have sk5 : ((k : Int) + 2 + (m2 : Int)).toNat = k + 2 + m2 := by omega
      have wm2 : IntKind.i64.wrap (m2 : Int) = m2 := IntWalk.i64_in _ ⟨by omega, by omega⟩
      have sk6 : max ((k : Int) + 2 + (m2 : Int)) 0 = (k : Int) + 2 + (m2 : Int) := by omega
      have sk7 : (0 : Int) ≤ (k : Int) + 2 + (m2 : Int) := by omega
      have sk8 : k + 2 + m2 - (k + 2) = m2 := by omega
      obtain ⟨Asl, hAsl⟩ : ∃ A, (if c = k + 2 then some (⟨bb, off, none⟩ : Addr) else some ⟨bb, off + (k + 2), none⟩) = A := ⟨_, rfl⟩
      have hPs : BS wk wk.heap.size Asl m2 ((l.drop (k + 2)).take m2) := by
        have h0 := (hBk2.drop_ (k := k + 2) (c := c) (by omega) hnc).take_ (k := m2) (by omega)
        rw [Option.map_some, addr_add, hAsl] at h0
        exact h0
      have q1 := hC.cell 1
      have HPs := Lib.hid hPs
      clear hPs
      go_upto_region 23 with fail
      rename_i hk
      have HK := Lib.hid hk
      clear hk
      refine wp_region_held_drew (S := (fun w' => Below wk.heap.size wk w' ∧ w'.cell? ⟨bb, off + (k + 1), none⟩ = some (.int .u8 m2))) (by kernel_rfl) ?_ (fun hHeld => ?_)
      · (first | exact ⟨bc.drew, mb⟩ | exact ⟨bX, mX⟩ | exact ⟨bY _, mY _⟩ | exact hHeld)
      refine wpAnyH_take (i := 0) (v := ?q1v0) rfl (by kernel_rfl) (by kernel_rfl) (by kernel_rfl) (by intro _ _ _ h; exact h) (Or.inl ⟨by rfl, ?q1hy0⟩) (by assumption) ?q1rest0
      case q1hy0 => (intro w hSw; (try dsimp only at hSw); go_simp; try with_reducible rfl)
      try simp only [Act.put, List.getElem_toArray, List.getElem_cons_succ, List.getElem_cons_zero, List.setIfInBounds_toArray, List.set_cons_zero, List.set_cons_succ]
      refine wpAnyH_take (i := 2) (v := ?q1v2) rfl (by kernel_rfl) (by kernel_rfl) (by kernel_rfl) (by intro _ _ _ h; exact h) (Or.inl ⟨by rfl, ?q1hy2⟩) (by assumption) ?q1rest2
      case q1hy2 => (intro w hSw; (try dsimp only at hSw); go_simp; try with_reducible rfl)
      try simp only [Act.put, List.getElem_toArray, List.getElem_cons_succ, List.getElem_cons_zero, List.setIfInBounds_toArray, List.set_cons_zero, List.set_cons_succ]
      refine wpAnyH_take (i := 3) (v := ?q1v3) rfl (by kernel_rfl) (by kernel_rfl) (by kernel_rfl) (by intro _ _ _ h; exact h) (Or.inl ⟨by rfl, ?q1hy3⟩) (by assumption) ?q1rest3
      case q1hy3 => (intro w hSw; (try dsimp only at hSw); go_simp; try with_reducible rfl)
      try simp only [Act.put, List.getElem_toArray, List.getElem_cons_succ, List.getElem_cons_zero, List.setIfInBounds_toArray, List.set_cons_zero, List.set_cons_succ]
      refine wpAnyH_take (i := 4) (v := ?q1v4) rfl (by kernel_rfl) (by kernel_rfl) (by kernel_rfl) (by intro _ _ _ h; exact h) (Or.inl ⟨by rfl, ?q1hy4⟩) (by assumption) ?q1rest4
      case q1hy4 => (intro w hSw; (try dsimp only at hSw); go_simp; try with_reducible rfl)
      try simp only [Act.put, List.getElem_toArray, List.getElem_cons_succ, List.getElem_cons_zero, List.setIfInBounds_toArray, List.set_cons_zero, List.set_cons_succ]
      refine wpAnyH_take (i := 5) (v := ?q1v5) rfl (by kernel_rfl) (by kernel_rfl) (by kernel_rfl) (by intro _ _ _ h; exact h) (Or.inl ⟨by rfl, ?q1hy5⟩) (by assumption) ?q1rest5
      case q1hy5 => (intro w hSw; (try dsimp only at hSw); go_simp; try with_reducible rfl)
      try simp only [Act.put, List.getElem_toArray, List.getElem_cons_succ, List.getElem_cons_zero, List.setIfInBounds_toArray, List.set_cons_zero, List.set_cons_succ]
      refine wpAnyH_take (i := 6) (v := ?q1v6) rfl (by kernel_rfl) (by kernel_rfl) (by kernel_rfl) (by intro _ _ _ h; exact h) (Or.inl ⟨by rfl, ?q1hy6⟩) (by assumption) ?q1rest6
      case q1hy6 => (intro w hSw; (try dsimp only at hSw); go_simp; try with_reducible rfl)
      try simp only [Act.put, List.getElem_toArray, List.getElem_cons_succ, List.getElem_cons_zero, List.setIfInBounds_toArray, List.set_cons_zero, List.set_cons_succ]
      refine wpAnyH_take (i := 7) (v := ?q1v7) rfl (by kernel_rfl) (by kernel_rfl) (by kernel_rfl) (by intro _ _ _ h; exact h) (Or.inl ⟨by rfl, ?q1hy7⟩) (by assumption) ?q1rest7
      case q1hy7 => (intro w hSw; (try dsimp only at hSw); go_simp; try with_reducible rfl)
      try simp only [Act.put, List.getElem_toArray, List.getElem_cons_succ, List.getElem_cons_zero, List.setIfInBounds_toArray, List.set_cons_zero, List.set_cons_succ]
      refine wpAnyH_take (i := 8) (v := ?q1v8) rfl (by kernel_rfl) (by kernel_rfl) (by kernel_rfl) (by intro _ _ _ h; exact h) (Or.inl ⟨by rfl, ?q1hy8⟩) (by assumption) ?q1rest8
      case q1hy8 => (intro w hSw; (try dsimp only at hSw); go_simp; try with_reducible rfl)
      try simp only [Act.put, List.getElem_toArray, List.getElem_cons_succ, List.getElem_cons_zero, List.setIfInBounds_toArray, List.set_cons_zero, List.set_cons_succ]
      refine wpAnyH_take (i := 9) (v := ?q1v9) rfl (by kernel_rfl) (by kernel_rfl) (by kernel_rfl) (by intro _ _ _ h; exact h) (Or.inl ⟨by rfl, ?q1hy9⟩) (by assumption) ?q1rest9
      case q1hy9 => (intro w hSw; (try dsimp only at hSw); go_simp; try with_reducible rfl)
      try simp only [Act.put, List.getElem_toArray, List.getElem_cons_succ, List.getElem_cons_zero, List.setIfInBounds_toArray, List.set_cons_zero, List.set_cons_succ]
      refine wpAnyH_take (i := 10) (v := ?q1v10) rfl (by kernel_rfl) (by kernel_rfl) (by kernel_rfl) (by intro _ _ _ h; exact h) (Or.inl ⟨by rfl, ?q1hy10⟩) (by assumption) ?q1rest10
      case q1hy10 => (intro w hSw; (try dsimp only at hSw); go_simp; try with_reducible rfl)
      try simp only [Act.put, List.getElem_toArray, List.getElem_cons_succ, List.getElem_cons_zero, List.setIfInBounds_toArray, List.set_cons_zero, List.set_cons_succ]
      refine wpAnyH_take (i := 11) (v := ?q1v11) rfl (by kernel_rfl) (by kernel_rfl) (by kernel_rfl) (by intro _ _ _ h; exact h) (Or.inl ⟨by rfl, ?q1hy11⟩) (by assumption) ?q1rest11
      case q1hy11 => (intro w hSw; (try dsimp only at hSw); go_simp; try with_reducible rfl)
      try simp only [Act.put, List.getElem_toArray, List.getElem_cons_succ, List.getElem_cons_zero, List.setIfInBounds_toArray, List.set_cons_zero, List.set_cons_succ]
      refine wpAnyH_take (i := 12) (v := ?q1v12) rfl (by kernel_rfl) (by kernel_rfl) (by kernel_rfl) (by intro _ _ _ h; exact h) (Or.inl ⟨by rfl, ?q1hy12⟩) (by assumption) ?q1rest12
      case q1hy12 => (intro w hSw; (try dsimp only at hSw); go_simp; try with_reducible rfl)
      try simp only [Act.put, List.getElem_toArray, List.getElem_cons_succ, List.getElem_cons_zero, List.setIfInBounds_toArray, List.set_cons_zero, List.set_cons_succ]
      refine wpAnyH_take (i := 13) (v := ?q1v13) rfl (by kernel_rfl) (by kernel_rfl) (by kernel_rfl) (by intro _ _ _ h; exact h) (Or.inl ⟨by rfl, ?q1hy13⟩) (by assumption) ?q1rest13
      case q1hy13 => (intro w hSw; (try dsimp only at hSw); go_simp; try with_reducible rfl)
      try simp only [Act.put, List.getElem_toArray, List.getElem_cons_succ, List.getElem_cons_zero, List.setIfInBounds_toArray, List.set_cons_zero, List.set_cons_succ]
      refine wpAnyH_take (i := 14) (v := ?q1v14) rfl (by kernel_rfl) (by kernel_rfl) (by kernel_rfl) (by intro _ _ _ h; exact h) (Or.inl ⟨by rfl, ?q1hy14⟩) (by assumption) ?q1rest14
      case q1hy14 => (intro w hSw; (try dsimp only at hSw); go_simp; try with_reducible rfl)
      try simp only [Act.put, List.getElem_toArray, List.getElem_cons_succ, List.getElem_cons_zero, List.setIfInBounds_toArray, List.set_cons_zero, List.set_cons_succ]
      refine wpAnyH_ready (rs := [1]) (by kernel_rfl) (by simp) ?_
      refine AllReadyH.cons rfl (fun K hK => ?_) AllReadyH.nil
      go_simp
      go_wp2_with (fail)
      refine hK.out _ _ ?_ (fun hHeld => ?_)
      · try dsimp only
        (first | exact ⟨bc.drew, mb⟩ | exact ⟨bX, mX⟩ | exact ⟨bY _, mY _⟩ | exact hHeld)
      clear hK K
      refine wpAnyH_ready (rs := [15]) (by kernel_rfl) (by simp) ?_
      refine AllReadyH.cons rfl (fun K hK => ?_) AllReadyH.nil
      refine step_app rfl (.tmp 118) (.tmp 131) _ (by rfl) 5 Try.underlying28 u8info wc.heap.size none 0 0 [] (by rfl) OB.nil_ wk.heap.size Asl m2 (c - (k + 2)) _ (by rfl) (HPs.out.below bc.drew) (by rw [List.length_nil, Nat.zero_add, ← HPs.out.len]; omega) (by simp) ?_; intro A5 n5 c5 w5 o5 b5 g5; rw [List.nil_append] at o5; have hC5 := hC.drew.below b5 hCl; have m1 := hC5.cell 1; have f1 := hC5.frozen 1; have bX := bc.drew.trans (b5.mono (show wk.heap.size ≤ wc.heap.size by omega)); have mX := (b5.cell (p := ⟨bb, off + (k + 1), none⟩) (show bb < wc.heap.size by omega)).trans mb; have bY := (fun u => bX.setCell (p := ⟨wk.heap.size, 1, none⟩) (Nat.le_refl _) u); have mY := (fun u => (World.cell?_of_block (Below.heap_setCell w5 ⟨wk.heap.size, 1, none⟩ u bb (show bb ≠ wk.heap.size by omega))).trans mX)
      refine hK.out _ _ ?_ (fun hHeld => ?_)
      · try dsimp only
        (first | exact ⟨bc.drew, mb⟩ | exact ⟨bX, mX⟩ | exact ⟨bY _, mY _⟩ | exact hHeld)
      clear hK K
      refine wpAnyH_take (i := 16) (v := ?q1v16) rfl (by kernel_rfl) (by kernel_rfl) (by kernel_rfl) (by intro _ _ _ h; exact h) (Or.inl ⟨by rfl, ?q1hy16⟩) (by assumption) ?q1rest16
      case q1hy16 => (intro w hSw; (try dsimp only at hSw); go_simp; try with_reducible rfl)
      try simp only [Act.put, List.getElem_toArray, List.getElem_cons_succ, List.getElem_cons_zero, List.setIfInBounds_toArray, List.set_cons_zero, List.set_cons_succ]
      refine wpAnyH_ready (rs := [17]) (by kernel_rfl) (by simp) ?_
      refine AllReadyH.cons rfl (fun K hK => ?_) AllReadyH.nil
      go_simp
      go_wp2_with (fail)
      refine hK.out _ _ ?_ (fun hHeld => ?_)
      · try dsimp only
        (first | exact ⟨bc.drew, mb⟩ | exact ⟨bX, mX⟩ | exact ⟨bY _, mY _⟩ | exact hHeld)
      clear hK K
      refine wpAnyH_done (by kernel_rfl) ?_ _
      obtain ⟨w6, hw6⟩ : ∃ W, w5.setCell ⟨wk.heap.size, 1, none⟩ (.slice A5 n5 c5) = W := ⟨_, rfl⟩
      have hC6 := hC5.set_ 1 (.slice A5 n5 c5)
      simp only [List.setIfInBounds_toArray, List.set_cons_succ, List.set_cons_zero] at hC6
      have b6 := bY (.slice A5 n5 c5)
      have z5 : wk.heap.size + 1 ≤ w5.heap.size := by have := b5.size; rw [← hwcz]; exact this
      have d6 : BF (w5.setCell ⟨wk.heap.size, 1, none⟩ (.slice A5 n5 c5)) (Fr wc.heap.size w5) A5 n5 ((l.drop (k + 2)).take m2) := (BF.own o5).keep fun b hb => ⟨hb, Below.heap_setCell _ _ _ _ (by have := hb.1; show b ≠ wk.heap.size; omega)⟩
      have z6 : w6.heap.size ≤ w5.heap.size := by rw [← hw6]; simp [World.setCell]
      have z6' : w5.heap.size ≤ w6.heap.size := by rw [← hw6]; simp [World.setCell]
      rw [hw6] at hC6 b6 d6
      rw [hw6]
      refine HK.out _ _ ?_
      clear HK hw6 bX mX bY mY q1 m1 f1
      have hn5 : n5 = m2 := o5.1.trans HPs.out.len.symm
      have HN5 := Lib.hid hn5
      have h5l : n5 < 256 := by omega
      have h5e : k + 2 + n5 ≤ E := by omega
      clear hn5
      have hob2 : ob < wk.heap.size := by omega
      have hCne : wk.heap.size ≠ ob := by omega
      have hO6 := hO.below b6 hob2
      have hR6 := hR.below b6 hR.lt
      have hF6 := hF.below b6 hF.lt
      have hN6 := hN.below b6 hN.lt
      have hD6_ := hD.below b6 hD.lt
      have co4 := hO6.cell 4
      have cc0 := hC6.cell 0
      have cc1 := hC6.cell 1
      have S7 := (Sm.of_below (av := [ob]) b6 (Nat.le_refl _)).alloc (by omega) (.cells #[.int .i64 (y2 : Int), .slice A5 n5 c5] 54)
      have hown := Lib.hid hOL.own_
      have o7 := hOL.sm rCap_ok S7
      have b7 := (Below.refl w6.heap.size w6).alloc (Nat.le_refl _) (.cells #[.int .i64 (y2 : Int), .slice A5 n5 c5] 54)
      have hO7 := hO6.below b7 (by omega)
      have hC7 := hC6.below b7 (by omega)
      have hdl : DL rCap 2 (w6.alloc (.cells #[.int .i64 (y2 : Int), .slice A5 n5 c5] 54)) (fun b => wk.heap.size + 1 ≤ b ∧ b < w6.heap.size + 1) (some ⟨w6.heap.size, 0, none⟩) 1 [((y2 : Int), (l.drop (k + 2)).take m2)] :=
        DL.one rCap_ok (Blk.new w6 54 _) ⟨by omega, by omega⟩ ⟨A5, n5, c5, rfl, d6.keep (fun b hb => ⟨⟨by have := hb.1; omega, by have := hb.2; omega⟩, b7.block b (by have := hb.2; omega)⟩), o5.cap⟩
      have wk4 : IntKind.i64.wrap ((k : Int) + 2 + (n5 : Int)) = (k : Int) + 2 + (n5 : Int) := IntWalk.i64_in _ ⟨by omega, by omega⟩
      have HLen := Lib.hid hk3
      go_wp2_with (at_builtin; refine wpl_appL rfl (.tmp 135) (.tmp 137) _ rfl rCap_ok _ 32 Try.underlying23 cap_info rfl (by omega) (by rfl) o7 (by simp; omega) (by intro x hx; simp at hx; subst hx; simp; omega) (by simp; omega) (some ⟨w6.heap.size, 0, none⟩) 1 1 [((y2 : Int), (l.drop (k + 2)).take m2)] (by rfl) hdl (by intro b hb; simp; exact hb.2) (fun cs x _ hx => rCap_ok.keep hx (Kp.sub fun b hb => ⟨⟨by have := hb.1; omega, by simp; exact hb.2, by have := hb.1; simp; omega⟩, fun e => by have := hown.out b e.symm; have := hb.1; omega⟩)) (by have := HLen.out; simp only [List.length_cons, List.length_nil]; omega) (by have := HLen.out; simp only [List.length_cons, List.length_nil]; omega) (by simp; omega) ?_; intro A8 n8 c8 w8 o8 b8 g8; have hO8 := hO7.below b8 (by omega); have kk := hO8.cell 4; have ff := hO8.frozen 4; have hC8 := hC7.grown g8 (by intro e; have := hown.out _ e.symm; omega); have kc := hC8.cell 1)
      have hO9 := hO8.set_ 4 (.slice A8 n8 c8)
      simp only [List.setIfInBounds_toArray, List.set_cons_succ, List.set_cons_zero] at hO9
      have hR9 := ((hR6.below b7 (by omega)).below b8 (by omega)).far (p := ⟨ob, 4, none⟩) (by show w.heap.size ≠ ob; omega) (.slice A8 n8 c8)
      have hF9 := ((hF6.below b7 (by omega)).below b8 (by omega)).far (p := ⟨ob, 4, none⟩) (by show w.heap.size + 1 ≠ ob; omega) (.slice A8 n8 c8)
      have hN9 := ((hN6.below b7 (by omega)).below b8 (by omega)).far (p := ⟨ob, 4, none⟩) (by show w.heap.size + 1 + 1 ≠ ob; omega) (.slice A8 n8 c8)
      have hD9 := ((hD6_.below b7 (by omega)).below b8 (by omega)).far (p := ⟨ob, 4, none⟩) (by show w.heap.size + 1 + 1 + 1 ≠ ob; omega) (.slice A8 n8 c8)
      have o9 := (o8.sm rCap_ok ((Sm.refl w8.heap.size [ob] w8).setCell (p := ⟨ob, 4, none⟩) (.inr (by simp)) (.slice A8 n8 c8))).more (B' := (w8.setCell ⟨ob, 4, none⟩ (.slice A8 n8 c8)).heap.size) (lo' := w13.heap.size) (av' := [ob]) rCap_ok (fun b hb => ⟨hb.1, by simpa [World.setCell] using hb.2.1, hb.2.2⟩)
      rw [List.append_assoc] at o9
      have b9 := (((hb.trans (b6.mono (by omega))).trans (b7.mono (by omega))).trans (b8.mono (by omega))).setCell (p := ⟨ob, 4, none⟩) (by show w.heap.size ≤ ob; omega) (.slice A8 n8 c8)
      have z8 := b8.size
      have z9 : w13.heap.size ≤ (w8.setCell ⟨ob, 4, none⟩ (.slice A8 n8 c8)).heap.size := by simp [World.setCell]; simp at z8; omega
      go_roundw
      case rel => exact ⟨k + 2 + n5, ac2 ++ [((y2 : Int), (l.drop (k + 2)).take m2)], A8, n8, c8, by omega, h5e, by have := HLen.out; simp at this ⊢; omega, by go_num, ⟨hR9, hF9, hN9, hD9, hO9, o9, b9, z9⟩, Lib.hid (by rw [hp2.out, HSG.out ac2, HN5.out])⟩
      case measure => simp [intOf]; omega
end Go.Proofs.Ytnhkpnohadbcdaa
