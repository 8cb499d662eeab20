/- The walk of layer 12's Parse. Conditions: the table of digits (DigTab). -/
import Derived.Test.YtnhkpnohadbcdaaDoorProg
import Derived.WalkKit
import Derived.WalkSpells
import Derived.WalkLawsBesides
import Derived.Outline
import Derived.Deep.QuietTactic
import Derived.BigQuiet
import Derived.Handy
import Derived.Lib.Hide
import Derived.Test.YtnhkpnohadbcdaaDoorFilF
namespace Go.Proofs.YtnhkpnohadbcdaaDoor
open Go.RowKit
set_option linter.unusedSimpArgs false
theorem rg_info : (Tryd.prog.info? 47).map (fun i => (i.zero, i.size, i.bytes)) = some (some (.agg #[.int .u32 0, .int .i64 0, .int .i64 0, .int .i64 0]), 4, 32) := by kernel_rfl
theorem rg_info1 : (Tryd.prog.info? 47).map (·.size) = some 4 := by kernel_rfl
theorem rg_ret2 {fn : Func} {p u : Tmp} (h : fn.results = #[.cell p 47, .tmp u]) (tmps : Array Value) (w : World) (g : Nat) (x y z v : Value)
    (hp : tmps.getD p undef = .pointer (some ⟨g, 0, none⟩)) (hB : Blk w g 47 #[x, y, z, v]) :
    (results fn tmps).run Tryd.prog w = .ok (.tuple #[.agg #[x, y, z, v], tmps.getD u undef]) w := by
  rw [results_cell_tmp h, hp]
  have := run_loadVar_row (P := Tryd.prog) w g 47 47 #[x, y, z, v] (0, 0) _ hB Tryd.underlying47 rfl rg_info1
  simp [asAddr, this]
def RetRg (w : World) (l : List UInt8) (e : Ending) (w' : World) : Prop := ∃ (a n lo hi : Nat) (ok : Bool), e = .returned (.tuple #[.agg #[.int .u32 a, .int .i64 n, .int .i64 lo, .int .i64 hi], .bool ok]) ∧ a < 4294967296 ∧ RgAns l a n lo hi ok ∧ Below w.heap.size w w'
theorem PfA.lt {l : List UInt8} {a n : Nat} {ok : Bool} (h : PfA l a n ok) : a < 4294967296 ∧ n ≤ 32 := by
  rcases h with ⟨_, h1, h2, _⟩ | ⟨_, rfl, rfl, _⟩
  · exact ⟨h1, h2⟩
  · exact ⟨by omega, by omega⟩
theorem rg_none {l s t u v : List UInt8} {ok1 ok2 ok3 : Bool} {pa pn : Nat} {x y : Int} {ox oy : Bool}
    (h1 : CutAns 32 l s t ok1) (h2 : CutAns 45 t u v ok2) (hp : PfA s pa pn ok3) (hx : IntAns u x ox) (hy : IntAns v y oy)
    (hno : ok3 = false ∨ ∀ a n lo hi : Nat, a = pa → n = pn → x = lo → y = hi → a < 4294967296 → rgRight a n lo hi = true → rgT a n lo hi ≠ l) : RgAns l 0 0 0 0 false := by
  refine .inr ⟨rfl, rfl, rfl, rfl, rfl, fun b m p q hb hr he => ?_⟩
  obtain ⟨e1, e2, e3, e4, e5⟩ := rg_parts hb hr he h1 h2 hp hx hy
  rcases hno with h | h
  · rw [h] at e1; cases e1
  · exact h b m p q e2.symm e3.symm e4 e5 hb hr he
theorem PfA.ne {s : List UInt8} {pa pn : Nat} (h : PfA s pa pn true) : s ≠ [] := by
  rcases h with ⟨_, _, _, _, h⟩ | ⟨h, _⟩
  · rw [← h]; simp [pfT]
  · cases h
theorem box2c (w : World) (c1 c2 : Array Value) (t1 t2 : TypeId) : ∃ W, (w.alloc (.cells c1 t1)).alloc (.cells c2 t2) = W ∧ Blk W w.heap.size t1 c1 ∧ Blk W (w.heap.size + 1) t2 c2 ∧ Below w.heap.size w W := by
  have hz : (w.alloc (.cells c1 t1)).heap.size = w.heap.size + 1 := by simp
  have h2 := Blk.new (w.alloc (.cells c1 t1)) t2 c2
  rw [hz] at h2
  exact ⟨_, rfl, (Blk.new w t1 c1).alloc _, h2, ((Below.refl _ _).alloc (Nat.le_refl _) _).alloc (by omega) _⟩
set_option maxHeartbeats 4000000 in
set_option maxRecDepth 100000 in
theorem filterParse (s : ByteArray) (w : World) (ht : DigTab w) (hl : s.size ≤ 2000) :
    Calls Tryd.prog 49 #[.string s] w (RetRg w s.data.toList) := by
  have hB := Blk.new w 47 #[.int .u32 0, .int .i64 0, .int .i64 0, .int .i64 0]
  have b0 := (Below.refl w.heap.size w).alloc (Nat.le_refl _) (.cells #[.int .u32 0, .int .i64 0, .int .i64 0, .int .i64 0] 47)
  go_enter Tryd.func49, Tryd.ntmps49
  go_wp2_with fail
  refine (filterCut s 32 32 rfl (by omega) _ hl).mono ?_
  rintro _ w1 ⟨A, B, ok1, rfl, hC1, zA, zB, b1⟩
  have b01 := btr b0 b1 b0.size
  have hB_1 := hB.below b1 hB.lt
  have HC1 := Lib.hid hC1
  clear hC1
  go_wp2_with fail
  refine (filterCut B 45 45 rfl (by omega) _ (by omega)).mono ?_
  rintro _ w2 ⟨U, V, ok2, rfl, hC2, zU, zV, b2⟩
  have b02 := btr b01 b2 b01.size
  have hB_2 := hB_1.below b2 hB_1.lt
  clear hB_1
  have HC2 := Lib.hid hC2
  clear hC2
  go_wp2_with fail
  refine (prefixParse A _ (ht.call b02) (by omega)).mono ?_
  rintro _ w3 ⟨pa, pn, ok, rfl, hP, b3⟩
  have b03 := btr b02 b3 b02.size
  have hB_3 := hB_2.below b3 hB_2.lt
  clear hB_2
  have hpl := hP.lt
  have HP := Lib.hid hP
  clear hP
  go_wp2_with fail
  obtain ⟨W4, hW4, hPb, hX, b4⟩ := box2c w3 #[.int .u32 pa, .int .i64 pn] #[.int .u32 pa, .int .i64 pn, .int .i64 0, .int .i64 0] 24 47
  rw [hW4]
  clear hW4 hPb
  have b04 := btr b03 b4 b03.size
  have hB_4 := hB_3.below b4 hB_3.lt
  have hs3 := b03.size
  refine (octetInt_any U _ (ht.call b04) (by omega)).mono ?_
  rintro _ w5 ⟨xi, ox, rfl, hI1, b5⟩
  have b05 := btr b04 b5 b04.size
  have hB_5 := hB_4.below b5 hB_4.lt
  have hX_5 := hX.below b5 hX.lt
  obtain ⟨x, rfl, hxl⟩ := hI1.nat
  have HI1 := Lib.hid hI1
  clear hI1
  have c_hX2 := hX_5.cell 2
  have f_hX2 := hX_5.frozen 2
  go_wp2_with fail
  obtain ⟨w6, hw6⟩ : ∃ W, w5.setCell ⟨w3.heap.size + 1, 2, none⟩ (.int .i64 (x : Int)) = W := ⟨_, rfl⟩
  have hB_6 := hB_5.far (p := ⟨w3.heap.size + 1, 2, none⟩) (by show _ ≠ w3.heap.size + 1; omega) (.int .i64 (x : Int))
  have hX_6 := hX_5.set_ 2 (.int .i64 (x : Int))
  simp only [List.setIfInBounds_toArray, List.set_cons_succ, List.set_cons_zero] at hX_6
  have b06 := b05.setCell (p := ⟨w3.heap.size + 1, 2, none⟩) (by show _ ≤ w3.heap.size + 1; omega) (.int .i64 (x : Int))
  rw [hw6] at hB_6 hX_6 b06
  rw [hw6]
  clear hw6
  clear c_hX2 f_hX2
  clear hB_5
  clear hX_5
  have c_hX2 := hX_6.cell 2
  have f_hX2 := hX_6.frozen 2
  refine (octetInt_any V _ (ht.call b06) (by omega)).mono ?_
  rintro _ w7 ⟨yi, oy, rfl, hI2, b7⟩
  clear c_hX2 f_hX2
  have b07 := btr b06 b7 b06.size
  have hB_7 := hB_6.below b7 hB_6.lt
  clear hB_6
  have hX_7 := hX_6.below b7 hX_6.lt
  clear hX_6
  have c_hX2 := hX_7.cell 2
  have f_hX2 := hX_7.frozen 2
  obtain ⟨y, rfl, hyl⟩ := hI2.nat
  have HI2 := Lib.hid hI2
  clear hI2
  clear c_hX2 f_hX2
  have c_hX0 := hX_7.cell 0
  have f_hX0 := hX_7.frozen 0
  have c_hX1 := hX_7.cell 1
  have f_hX1 := hX_7.frozen 1
  have c_hX2 := hX_7.cell 2
  have f_hX2 := hX_7.frozen 2
  have c_hX3 := hX_7.cell 3
  have f_hX3 := hX_7.frozen 3
  have c_hB0 := hB_7.cell 0
  have f_hB0 := hB_7.frozen 0
  have c_hB1 := hB_7.cell 1
  have f_hB1 := hB_7.frozen 1
  have c_hB2 := hB_7.cell 2
  have f_hB2 := hB_7.frozen 2
  have c_hB3 := hB_7.cell 3
  have f_hB3 := hB_7.frozen 3
  have HE : Hid (∀ S, S = (⟨(rgT pa pn x y).toArray⟩ : ByteArray) → ((S.toList == s.toList) = true ↔ rgT pa pn x y = s.data.toList)) := Lib.hid (fun S hS => by rw [beq_iff_eq, hS, ByteArray.toList_mk, ByteArray.toList_eq])
  cases ok
  · have HG := Lib.hid (rg_none HC1.out HC2.out HP.out HI1.out HI2.out (.inl rfl))
    go_wp2_with fail
    obtain ⟨w8, hw8⟩ : ∃ W, w7.setCell ⟨w3.heap.size + 1, 3, none⟩ (.int .i64 (y : Int)) = W := ⟨_, rfl⟩
    have hB_8 := hB_7.far (p := ⟨w3.heap.size + 1, 3, none⟩) (by show _ ≠ w3.heap.size + 1; omega) (.int .i64 (y : Int))
    have hX_8 := hX_7.set_ 3 (.int .i64 (y : Int))
    simp only [List.setIfInBounds_toArray, List.set_cons_succ, List.set_cons_zero] at hX_8
    have b08 := b07.setCell (p := ⟨w3.heap.size + 1, 3, none⟩) (by show _ ≤ w3.heap.size + 1; omega) (.int .i64 (y : Int))
    rw [hw8] at hB_8 hX_8 b08
    rw [hw8]
    clear hw8
    clear c_hX0 f_hX0 c_hX1 f_hX1 c_hX2 f_hX2 c_hX3 f_hX3 c_hB0 f_hB0 c_hB1 f_hB1 c_hB2 f_hB2 c_hB3 f_hB3
    clear hB_7
    clear hX_7
    have c_hB0 := hB_8.cell 0
    have f_hB0 := hB_8.frozen 0
    have c_hB1 := hB_8.cell 1
    have f_hB1 := hB_8.frozen 1
    have c_hB2 := hB_8.cell 2
    have f_hB2 := hB_8.frozen 2
    have c_hB3 := hB_8.cell 3
    have f_hB3 := hB_8.frozen 3
    have c_hX0 := hX_8.cell 0
    have f_hX0 := hX_8.frozen 0
    have c_hX1 := hX_8.cell 1
    have f_hX1 := hX_8.frozen 1
    have c_hX2 := hX_8.cell 2
    have f_hX2 := hX_8.frozen 2
    have c_hX3 := hX_8.cell 3
    have f_hX3 := hX_8.frozen 3
    obtain ⟨w9, hw9⟩ : ∃ W, w8.setCell ⟨w.heap.size, 0, none⟩ (.int .u32 0) = W := ⟨_, rfl⟩
    have hB_9 := hB_8.set_ 0 (.int .u32 0)
    simp only [List.setIfInBounds_toArray, List.set_cons_succ, List.set_cons_zero] at hB_9
    have hX_9 := hX_8.far (p := ⟨w.heap.size, 0, none⟩) (by show _ ≠ w.heap.size; omega) (.int .u32 0)
    have b09 := b08.setCell (p := ⟨w.heap.size, 0, none⟩) (by show _ ≤ w.heap.size; omega) (.int .u32 0)
    rw [hw9] at hB_9 hX_9 b09
    rw [hw9]
    clear hw9
    clear c_hX0 f_hX0 c_hX1 f_hX1 c_hX2 f_hX2 c_hX3 f_hX3 c_hB0 f_hB0 c_hB1 f_hB1 c_hB2 f_hB2 c_hB3 f_hB3
    clear hB_8
    clear hX_8
    have c_hB0 := hB_9.cell 0
    have f_hB0 := hB_9.frozen 0
    have c_hB1 := hB_9.cell 1
    have f_hB1 := hB_9.frozen 1
    have c_hB2 := hB_9.cell 2
    have f_hB2 := hB_9.frozen 2
    have c_hB3 := hB_9.cell 3
    have f_hB3 := hB_9.frozen 3
    have c_hX0 := hX_9.cell 0
    have f_hX0 := hX_9.frozen 0
    have c_hX1 := hX_9.cell 1
    have f_hX1 := hX_9.frozen 1
    have c_hX2 := hX_9.cell 2
    have f_hX2 := hX_9.frozen 2
    have c_hX3 := hX_9.cell 3
    have f_hX3 := hX_9.frozen 3
    obtain ⟨w10, hw10⟩ : ∃ W, w9.setCell ⟨w.heap.size, 1, none⟩ (.int .i64 0) = W := ⟨_, rfl⟩
    have hB_10 := hB_9.set_ 1 (.int .i64 0)
    simp only [List.setIfInBounds_toArray, List.set_cons_succ, List.set_cons_zero] at hB_10
    have hX_10 := hX_9.far (p := ⟨w.heap.size, 1, none⟩) (by show _ ≠ w.heap.size; omega) (.int .i64 0)
    have b010 := b09.setCell (p := ⟨w.heap.size, 1, none⟩) (by show _ ≤ w.heap.size; omega) (.int .i64 0)
    rw [hw10] at hB_10 hX_10 b010
    rw [hw10]
    clear hw10
    clear c_hX0 f_hX0 c_hX1 f_hX1 c_hX2 f_hX2 c_hX3 f_hX3 c_hB0 f_hB0 c_hB1 f_hB1 c_hB2 f_hB2 c_hB3 f_hB3
    clear hB_9
    clear hX_9
    have c_hB0 := hB_10.cell 0
    have f_hB0 := hB_10.frozen 0
    have c_hB1 := hB_10.cell 1
    have f_hB1 := hB_10.frozen 1
    have c_hB2 := hB_10.cell 2
    have f_hB2 := hB_10.frozen 2
    have c_hB3 := hB_10.cell 3
    have f_hB3 := hB_10.frozen 3
    have c_hX0 := hX_10.cell 0
    have f_hX0 := hX_10.frozen 0
    have c_hX1 := hX_10.cell 1
    have f_hX1 := hX_10.frozen 1
    have c_hX2 := hX_10.cell 2
    have f_hX2 := hX_10.frozen 2
    have c_hX3 := hX_10.cell 3
    have f_hX3 := hX_10.frozen 3
    obtain ⟨w11, hw11⟩ : ∃ W, w10.setCell ⟨w.heap.size, 2, none⟩ (.int .i64 0) = W := ⟨_, rfl⟩
    have hB_11 := hB_10.set_ 2 (.int .i64 0)
    simp only [List.setIfInBounds_toArray, List.set_cons_succ, List.set_cons_zero] at hB_11
    have hX_11 := hX_10.far (p := ⟨w.heap.size, 2, none⟩) (by show _ ≠ w.heap.size; omega) (.int .i64 0)
    have b011 := b010.setCell (p := ⟨w.heap.size, 2, none⟩) (by show _ ≤ w.heap.size; omega) (.int .i64 0)
    rw [hw11] at hB_11 hX_11 b011
    rw [hw11]
    clear hw11
    clear c_hX0 f_hX0 c_hX1 f_hX1 c_hX2 f_hX2 c_hX3 f_hX3 c_hB0 f_hB0 c_hB1 f_hB1 c_hB2 f_hB2 c_hB3 f_hB3
    clear hB_10
    clear hX_10
    have c_hB0 := hB_11.cell 0
    have f_hB0 := hB_11.frozen 0
    have c_hB1 := hB_11.cell 1
    have f_hB1 := hB_11.frozen 1
    have c_hB2 := hB_11.cell 2
    have f_hB2 := hB_11.frozen 2
    have c_hB3 := hB_11.cell 3
    have f_hB3 := hB_11.frozen 3
    have c_hX0 := hX_11.cell 0
    have f_hX0 := hX_11.frozen 0
    have c_hX1 := hX_11.cell 1
    have f_hX1 := hX_11.frozen 1
    have c_hX2 := hX_11.cell 2
    have f_hX2 := hX_11.frozen 2
    have c_hX3 := hX_11.cell 3
    have f_hX3 := hX_11.frozen 3
    obtain ⟨w12, hw12⟩ : ∃ W, w11.setCell ⟨w.heap.size, 3, none⟩ (.int .i64 0) = W := ⟨_, rfl⟩
    have hB_12 := hB_11.set_ 3 (.int .i64 0)
    simp only [List.setIfInBounds_toArray, List.set_cons_succ, List.set_cons_zero] at hB_12
    have hX_12 := hX_11.far (p := ⟨w.heap.size, 3, none⟩) (by show _ ≠ w.heap.size; omega) (.int .i64 0)
    have b012 := b011.setCell (p := ⟨w.heap.size, 3, none⟩) (by show _ ≤ w.heap.size; omega) (.int .i64 0)
    rw [hw12] at hB_12 hX_12 b012
    rw [hw12]
    clear hw12
    clear c_hX0 f_hX0 c_hX1 f_hX1 c_hX2 f_hX2 c_hX3 f_hX3 c_hB0 f_hB0 c_hB1 f_hB1 c_hB2 f_hB2 c_hB3 f_hB3
    clear hB_11
    clear hX_11
    have c_hB0 := hB_12.cell 0
    have f_hB0 := hB_12.frozen 0
    have c_hB1 := hB_12.cell 1
    have f_hB1 := hB_12.frozen 1
    have c_hB2 := hB_12.cell 2
    have f_hB2 := hB_12.frozen 2
    have c_hB3 := hB_12.cell 3
    have f_hB3 := hB_12.frozen 3
    have c_hX0 := hX_12.cell 0
    have f_hX0 := hX_12.frozen 0
    have c_hX1 := hX_12.cell 1
    have f_hX1 := hX_12.frozen 1
    have c_hX2 := hX_12.cell 2
    have f_hX2 := hX_12.frozen 2
    have c_hX3 := hX_12.cell 3
    have f_hX3 := hX_12.frozen 3
    exact bodyPost_ret (rg_ret2 rfl _ _ w.heap.size _ _ _ _ rfl hB_12) rfl ⟨0, 0, 0, 0, false, rfl, by omega, HG.out, b012⟩
  have hne : s.toList ≠ [] := fun h => by
    have h1 := HP.out.ne
    rw [ByteArray.toList_eq] at h
    rcases HC1.out with ⟨_, k, hk, _⟩ | ⟨_, h2, _⟩
    · rw [h] at hk; simp at hk
    · exact h1 h2
  have hne1 : s.toList.isEmpty = false := by simpa using hne
  go_wp2_with fail
  obtain ⟨w8, hw8⟩ : ∃ W, w7.setCell ⟨w3.heap.size + 1, 3, none⟩ (.int .i64 (y : Int)) = W := ⟨_, rfl⟩
  have hB_8 := hB_7.far (p := ⟨w3.heap.size + 1, 3, none⟩) (by show _ ≠ w3.heap.size + 1; omega) (.int .i64 (y : Int))
  have hX_8 := hX_7.set_ 3 (.int .i64 (y : Int))
  simp only [List.setIfInBounds_toArray, List.set_cons_succ, List.set_cons_zero] at hX_8
  have b08 := b07.setCell (p := ⟨w3.heap.size + 1, 3, none⟩) (by show _ ≤ w3.heap.size + 1; omega) (.int .i64 (y : Int))
  rw [hw8] at hB_8 hX_8 b08
  rw [hw8]
  clear hw8
  clear c_hX0 f_hX0 c_hX1 f_hX1 c_hX2 f_hX2 c_hX3 f_hX3 c_hB0 f_hB0 c_hB1 f_hB1 c_hB2 f_hB2 c_hB3 f_hB3
  clear hB_7
  clear hX_7
  have c_hB0 := hB_8.cell 0
  have f_hB0 := hB_8.frozen 0
  have c_hB1 := hB_8.cell 1
  have f_hB1 := hB_8.frozen 1
  have c_hB2 := hB_8.cell 2
  have f_hB2 := hB_8.frozen 2
  have c_hB3 := hB_8.cell 3
  have f_hB3 := hB_8.frozen 3
  have c_hX0 := hX_8.cell 0
  have f_hX0 := hX_8.frozen 0
  have c_hX1 := hX_8.cell 1
  have f_hX1 := hX_8.frozen 1
  have c_hX2 := hX_8.cell 2
  have f_hX2 := hX_8.frozen 2
  have c_hX3 := hX_8.cell 3
  have f_hX3 := hX_8.frozen 3
  cases hr : rgRight pa pn x y
  · have HG := Lib.hid (rg_none HC1.out HC2.out HP.out HI1.out HI2.out (.inr fun a n lo hi e1 e2 e3 e4 _ h => by
      subst e1 e2
      have e3 : lo = x := by omega
      have e4 : hi = y := by omega
      subst e3 e4
      rw [hr] at h; cases h))
    refine (filterText_no pa hpl.1 pn x y _ hr).mono ?_
    rintro _ w9 ⟨rfl, b9⟩
    clear c_hB0 f_hB0 c_hB1 f_hB1 c_hB2 f_hB2 c_hB3 f_hB3 c_hX0 f_hX0 c_hX1 f_hX1 c_hX2 f_hX2 c_hX3 f_hX3
    have b09 := btr b08 b9 b08.size
    have hB_9 := hB_8.below b9 hB_8.lt
    clear hB_8
    have hX_9 := hX_8.below b9 hX_8.lt
    clear hX_8
    have c_hB0 := hB_9.cell 0
    have f_hB0 := hB_9.frozen 0
    have c_hB1 := hB_9.cell 1
    have f_hB1 := hB_9.frozen 1
    have c_hB2 := hB_9.cell 2
    have f_hB2 := hB_9.frozen 2
    have c_hB3 := hB_9.cell 3
    have f_hB3 := hB_9.frozen 3
    have c_hX0 := hX_9.cell 0
    have f_hX0 := hX_9.frozen 0
    have c_hX1 := hX_9.cell 1
    have f_hX1 := hX_9.frozen 1
    have c_hX2 := hX_9.cell 2
    have f_hX2 := hX_9.frozen 2
    have c_hX3 := hX_9.cell 3
    have f_hX3 := hX_9.frozen 3
    go_wp2_with fail
    obtain ⟨w10, hw10⟩ : ∃ W, w9.setCell ⟨w.heap.size, 0, none⟩ (.int .u32 0) = W := ⟨_, rfl⟩
    have hB_10 := hB_9.set_ 0 (.int .u32 0)
    simp only [List.setIfInBounds_toArray, List.set_cons_succ, List.set_cons_zero] at hB_10
    have hX_10 := hX_9.far (p := ⟨w.heap.size, 0, none⟩) (by show _ ≠ w.heap.size; omega) (.int .u32 0)
    have b010 := b09.setCell (p := ⟨w.heap.size, 0, none⟩) (by show _ ≤ w.heap.size; omega) (.int .u32 0)
    rw [hw10] at hB_10 hX_10 b010
    rw [hw10]
    clear hw10
    clear c_hX0 f_hX0 c_hX1 f_hX1 c_hX2 f_hX2 c_hX3 f_hX3 c_hB0 f_hB0 c_hB1 f_hB1 c_hB2 f_hB2 c_hB3 f_hB3
    clear hB_9
    clear hX_9
    have c_hB0 := hB_10.cell 0
    have f_hB0 := hB_10.frozen 0
    have c_hB1 := hB_10.cell 1
    have f_hB1 := hB_10.frozen 1
    have c_hB2 := hB_10.cell 2
    have f_hB2 := hB_10.frozen 2
    have c_hB3 := hB_10.cell 3
    have f_hB3 := hB_10.frozen 3
    have c_hX0 := hX_10.cell 0
    have f_hX0 := hX_10.frozen 0
    have c_hX1 := hX_10.cell 1
    have f_hX1 := hX_10.frozen 1
    have c_hX2 := hX_10.cell 2
    have f_hX2 := hX_10.frozen 2
    have c_hX3 := hX_10.cell 3
    have f_hX3 := hX_10.frozen 3
    obtain ⟨w11, hw11⟩ : ∃ W, w10.setCell ⟨w.heap.size, 1, none⟩ (.int .i64 0) = W := ⟨_, rfl⟩
    have hB_11 := hB_10.set_ 1 (.int .i64 0)
    simp only [List.setIfInBounds_toArray, List.set_cons_succ, List.set_cons_zero] at hB_11
    have hX_11 := hX_10.far (p := ⟨w.heap.size, 1, none⟩) (by show _ ≠ w.heap.size; omega) (.int .i64 0)
    have b011 := b010.setCell (p := ⟨w.heap.size, 1, none⟩) (by show _ ≤ w.heap.size; omega) (.int .i64 0)
    rw [hw11] at hB_11 hX_11 b011
    rw [hw11]
    clear hw11
    clear c_hX0 f_hX0 c_hX1 f_hX1 c_hX2 f_hX2 c_hX3 f_hX3 c_hB0 f_hB0 c_hB1 f_hB1 c_hB2 f_hB2 c_hB3 f_hB3
    clear hB_10
    clear hX_10
    have c_hB0 := hB_11.cell 0
    have f_hB0 := hB_11.frozen 0
    have c_hB1 := hB_11.cell 1
    have f_hB1 := hB_11.frozen 1
    have c_hB2 := hB_11.cell 2
    have f_hB2 := hB_11.frozen 2
    have c_hB3 := hB_11.cell 3
    have f_hB3 := hB_11.frozen 3
    have c_hX0 := hX_11.cell 0
    have f_hX0 := hX_11.frozen 0
    have c_hX1 := hX_11.cell 1
    have f_hX1 := hX_11.frozen 1
    have c_hX2 := hX_11.cell 2
    have f_hX2 := hX_11.frozen 2
    have c_hX3 := hX_11.cell 3
    have f_hX3 := hX_11.frozen 3
    obtain ⟨w12, hw12⟩ : ∃ W, w11.setCell ⟨w.heap.size, 2, none⟩ (.int .i64 0) = W := ⟨_, rfl⟩
    have hB_12 := hB_11.set_ 2 (.int .i64 0)
    simp only [List.setIfInBounds_toArray, List.set_cons_succ, List.set_cons_zero] at hB_12
    have hX_12 := hX_11.far (p := ⟨w.heap.size, 2, none⟩) (by show _ ≠ w.heap.size; omega) (.int .i64 0)
    have b012 := b011.setCell (p := ⟨w.heap.size, 2, none⟩) (by show _ ≤ w.heap.size; omega) (.int .i64 0)
    rw [hw12] at hB_12 hX_12 b012
    rw [hw12]
    clear hw12
    clear c_hX0 f_hX0 c_hX1 f_hX1 c_hX2 f_hX2 c_hX3 f_hX3 c_hB0 f_hB0 c_hB1 f_hB1 c_hB2 f_hB2 c_hB3 f_hB3
    clear hB_11
    clear hX_11
    have c_hB0 := hB_12.cell 0
    have f_hB0 := hB_12.frozen 0
    have c_hB1 := hB_12.cell 1
    have f_hB1 := hB_12.frozen 1
    have c_hB2 := hB_12.cell 2
    have f_hB2 := hB_12.frozen 2
    have c_hB3 := hB_12.cell 3
    have f_hB3 := hB_12.frozen 3
    have c_hX0 := hX_12.cell 0
    have f_hX0 := hX_12.frozen 0
    have c_hX1 := hX_12.cell 1
    have f_hX1 := hX_12.frozen 1
    have c_hX2 := hX_12.cell 2
    have f_hX2 := hX_12.frozen 2
    have c_hX3 := hX_12.cell 3
    have f_hX3 := hX_12.frozen 3
    obtain ⟨w13, hw13⟩ : ∃ W, w12.setCell ⟨w.heap.size, 3, none⟩ (.int .i64 0) = W := ⟨_, rfl⟩
    have hB_13 := hB_12.set_ 3 (.int .i64 0)
    simp only [List.setIfInBounds_toArray, List.set_cons_succ, List.set_cons_zero] at hB_13
    have hX_13 := hX_12.far (p := ⟨w.heap.size, 3, none⟩) (by show _ ≠ w.heap.size; omega) (.int .i64 0)
    have b013 := b012.setCell (p := ⟨w.heap.size, 3, none⟩) (by show _ ≤ w.heap.size; omega) (.int .i64 0)
    rw [hw13] at hB_13 hX_13 b013
    rw [hw13]
    clear hw13
    clear c_hX0 f_hX0 c_hX1 f_hX1 c_hX2 f_hX2 c_hX3 f_hX3 c_hB0 f_hB0 c_hB1 f_hB1 c_hB2 f_hB2 c_hB3 f_hB3
    clear hB_12
    clear hX_12
    have c_hB0 := hB_13.cell 0
    have f_hB0 := hB_13.frozen 0
    have c_hB1 := hB_13.cell 1
    have f_hB1 := hB_13.frozen 1
    have c_hB2 := hB_13.cell 2
    have f_hB2 := hB_13.frozen 2
    have c_hB3 := hB_13.cell 3
    have f_hB3 := hB_13.frozen 3
    have c_hX0 := hX_13.cell 0
    have f_hX0 := hX_13.frozen 0
    have c_hX1 := hX_13.cell 1
    have f_hX1 := hX_13.frozen 1
    have c_hX2 := hX_13.cell 2
    have f_hX2 := hX_13.frozen 2
    have c_hX3 := hX_13.cell 3
    have f_hX3 := hX_13.frozen 3
    exact bodyPost_ret (rg_ret2 rfl _ _ w.heap.size _ _ _ _ rfl hB_13) rfl ⟨0, 0, 0, 0, false, rfl, by omega, HG.out, b013⟩
  obtain ⟨S, hS⟩ : ∃ S : ByteArray, S = ⟨(rgT pa pn x y).toArray⟩ := ⟨_, rfl⟩
  have hE := HE.out S hS
  have HS := Lib.hid hS
  clear hS
  have hxy : x ≤ 32 ∧ y ≤ 32 := by
    obtain ⟨_, _, _, _, _, _, _, hxy, hy32, _⟩ := rgRight_of hr
    omega
  obtain ⟨hx32, hy32⟩ := hxy
  cases hb : (S.toList == s.toList)
  · have HG := Lib.hid (rg_none HC1.out HC2.out HP.out HI1.out HI2.out (.inr fun a n lo hi e1 e2 e3 e4 _ h he => by
      subst e1 e2
      have e3 : lo = x := by omega
      have e4 : hi = y := by omega
      subst e3 e4
      rw [hE.2 he] at hb; cases hb))
    have hb' : (S.toList != s.toList) = true := by unfold bne; rw [hb]; rfl
    clear hE
    refine (filterText_yes pa hpl.1 pn x y hpl.2 hx32 hy32 S _ (ht.call b08) hr HS).mono ?_
    rintro _ w9 ⟨rfl, b9⟩
    clear c_hB0 f_hB0 c_hB1 f_hB1 c_hB2 f_hB2 c_hB3 f_hB3 c_hX0 f_hX0 c_hX1 f_hX1 c_hX2 f_hX2 c_hX3 f_hX3
    have b09 := btr b08 b9 b08.size
    have hB_9 := hB_8.below b9 hB_8.lt
    clear hB_8
    have hX_9 := hX_8.below b9 hX_8.lt
    clear hX_8
    have c_hB0 := hB_9.cell 0
    have f_hB0 := hB_9.frozen 0
    have c_hB1 := hB_9.cell 1
    have f_hB1 := hB_9.frozen 1
    have c_hB2 := hB_9.cell 2
    have f_hB2 := hB_9.frozen 2
    have c_hB3 := hB_9.cell 3
    have f_hB3 := hB_9.frozen 3
    have c_hX0 := hX_9.cell 0
    have f_hX0 := hX_9.frozen 0
    have c_hX1 := hX_9.cell 1
    have f_hX1 := hX_9.frozen 1
    have c_hX2 := hX_9.cell 2
    have f_hX2 := hX_9.frozen 2
    have c_hX3 := hX_9.cell 3
    have f_hX3 := hX_9.frozen 3
    go_wp2_with fail
    obtain ⟨w10, hw10⟩ : ∃ W, w9.setCell ⟨w.heap.size, 0, none⟩ (.int .u32 0) = W := ⟨_, rfl⟩
    have hB_10 := hB_9.set_ 0 (.int .u32 0)
    simp only [List.setIfInBounds_toArray, List.set_cons_succ, List.set_cons_zero] at hB_10
    have hX_10 := hX_9.far (p := ⟨w.heap.size, 0, none⟩) (by show _ ≠ w.heap.size; omega) (.int .u32 0)
    have b010 := b09.setCell (p := ⟨w.heap.size, 0, none⟩) (by show _ ≤ w.heap.size; omega) (.int .u32 0)
    rw [hw10] at hB_10 hX_10 b010
    rw [hw10]
    clear hw10
    clear c_hX0 f_hX0 c_hX1 f_hX1 c_hX2 f_hX2 c_hX3 f_hX3 c_hB0 f_hB0 c_hB1 f_hB1 c_hB2 f_hB2 c_hB3 f_hB3
    clear hB_9
    clear hX_9
    have c_hB0 := hB_10.cell 0
    have f_hB0 := hB_10.frozen 0
    have c_hB1 := hB_10.cell 1
    have f_hB1 := hB_10.frozen 1
    have c_hB2 := hB_10.cell 2
    have f_hB2 := hB_10.frozen 2
    have c_hB3 := hB_10.cell 3
    have f_hB3 := hB_10.frozen 3
    have c_hX0 := hX_10.cell 0
    have f_hX0 := hX_10.frozen 0
    have c_hX1 := hX_10.cell 1
    have f_hX1 := hX_10.frozen 1
    have c_hX2 := hX_10.cell 2
    have f_hX2 := hX_10.frozen 2
    have c_hX3 := hX_10.cell 3
    have f_hX3 := hX_10.frozen 3
    obtain ⟨w11, hw11⟩ : ∃ W, w10.setCell ⟨w.heap.size, 1, none⟩ (.int .i64 0) = W := ⟨_, rfl⟩
    have hB_11 := hB_10.set_ 1 (.int .i64 0)
    simp only [List.setIfInBounds_toArray, List.set_cons_succ, List.set_cons_zero] at hB_11
    have hX_11 := hX_10.far (p := ⟨w.heap.size, 1, none⟩) (by show _ ≠ w.heap.size; omega) (.int .i64 0)
    have b011 := b010.setCell (p := ⟨w.heap.size, 1, none⟩) (by show _ ≤ w.heap.size; omega) (.int .i64 0)
    rw [hw11] at hB_11 hX_11 b011
    rw [hw11]
    clear hw11
    clear c_hX0 f_hX0 c_hX1 f_hX1 c_hX2 f_hX2 c_hX3 f_hX3 c_hB0 f_hB0 c_hB1 f_hB1 c_hB2 f_hB2 c_hB3 f_hB3
    clear hB_10
    clear hX_10
    have c_hB0 := hB_11.cell 0
    have f_hB0 := hB_11.frozen 0
    have c_hB1 := hB_11.cell 1
    have f_hB1 := hB_11.frozen 1
    have c_hB2 := hB_11.cell 2
    have f_hB2 := hB_11.frozen 2
    have c_hB3 := hB_11.cell 3
    have f_hB3 := hB_11.frozen 3
    have c_hX0 := hX_11.cell 0
    have f_hX0 := hX_11.frozen 0
    have c_hX1 := hX_11.cell 1
    have f_hX1 := hX_11.frozen 1
    have c_hX2 := hX_11.cell 2
    have f_hX2 := hX_11.frozen 2
    have c_hX3 := hX_11.cell 3
    have f_hX3 := hX_11.frozen 3
    obtain ⟨w12, hw12⟩ : ∃ W, w11.setCell ⟨w.heap.size, 2, none⟩ (.int .i64 0) = W := ⟨_, rfl⟩
    have hB_12 := hB_11.set_ 2 (.int .i64 0)
    simp only [List.setIfInBounds_toArray, List.set_cons_succ, List.set_cons_zero] at hB_12
    have hX_12 := hX_11.far (p := ⟨w.heap.size, 2, none⟩) (by show _ ≠ w.heap.size; omega) (.int .i64 0)
    have b012 := b011.setCell (p := ⟨w.heap.size, 2, none⟩) (by show _ ≤ w.heap.size; omega) (.int .i64 0)
    rw [hw12] at hB_12 hX_12 b012
    rw [hw12]
    clear hw12
    clear c_hX0 f_hX0 c_hX1 f_hX1 c_hX2 f_hX2 c_hX3 f_hX3 c_hB0 f_hB0 c_hB1 f_hB1 c_hB2 f_hB2 c_hB3 f_hB3
    clear hB_11
    clear hX_11
    have c_hB0 := hB_12.cell 0
    have f_hB0 := hB_12.frozen 0
    have c_hB1 := hB_12.cell 1
    have f_hB1 := hB_12.frozen 1
    have c_hB2 := hB_12.cell 2
    have f_hB2 := hB_12.frozen 2
    have c_hB3 := hB_12.cell 3
    have f_hB3 := hB_12.frozen 3
    have c_hX0 := hX_12.cell 0
    have f_hX0 := hX_12.frozen 0
    have c_hX1 := hX_12.cell 1
    have f_hX1 := hX_12.frozen 1
    have c_hX2 := hX_12.cell 2
    have f_hX2 := hX_12.frozen 2
    have c_hX3 := hX_12.cell 3
    have f_hX3 := hX_12.frozen 3
    obtain ⟨w13, hw13⟩ : ∃ W, w12.setCell ⟨w.heap.size, 3, none⟩ (.int .i64 0) = W := ⟨_, rfl⟩
    have hB_13 := hB_12.set_ 3 (.int .i64 0)
    simp only [List.setIfInBounds_toArray, List.set_cons_succ, List.set_cons_zero] at hB_13
    have hX_13 := hX_12.far (p := ⟨w.heap.size, 3, none⟩) (by show _ ≠ w.heap.size; omega) (.int .i64 0)
    have b013 := b012.setCell (p := ⟨w.heap.size, 3, none⟩) (by show _ ≤ w.heap.size; omega) (.int .i64 0)
    rw [hw13] at hB_13 hX_13 b013
    rw [hw13]
    clear hw13
    clear c_hX0 f_hX0 c_hX1 f_hX1 c_hX2 f_hX2 c_hX3 f_hX3 c_hB0 f_hB0 c_hB1 f_hB1 c_hB2 f_hB2 c_hB3 f_hB3
    clear hB_12
    clear hX_12
    have c_hB0 := hB_13.cell 0
    have f_hB0 := hB_13.frozen 0
    have c_hB1 := hB_13.cell 1
    have f_hB1 := hB_13.frozen 1
    have c_hB2 := hB_13.cell 2
    have f_hB2 := hB_13.frozen 2
    have c_hB3 := hB_13.cell 3
    have f_hB3 := hB_13.frozen 3
    have c_hX0 := hX_13.cell 0
    have f_hX0 := hX_13.frozen 0
    have c_hX1 := hX_13.cell 1
    have f_hX1 := hX_13.frozen 1
    have c_hX2 := hX_13.cell 2
    have f_hX2 := hX_13.frozen 2
    have c_hX3 := hX_13.cell 3
    have f_hX3 := hX_13.frozen 3
    exact bodyPost_ret (rg_ret2 rfl _ _ w.heap.size _ _ _ _ rfl hB_13) rfl ⟨0, 0, 0, 0, false, rfl, by omega, HG.out, b013⟩
  · have HG := Lib.hid (show RgAns s.data.toList pa pn x y true from .inl ⟨rfl, hpl.1, hr, hE.1 hb⟩)
    have hb' : (S.toList != s.toList) = false := by unfold bne; rw [hb]; rfl
    clear hE
    refine (filterText_yes pa hpl.1 pn x y hpl.2 hx32 hy32 S _ (ht.call b08) hr HS).mono ?_
    rintro _ w9 ⟨rfl, b9⟩
    clear c_hB0 f_hB0 c_hB1 f_hB1 c_hB2 f_hB2 c_hB3 f_hB3 c_hX0 f_hX0 c_hX1 f_hX1 c_hX2 f_hX2 c_hX3 f_hX3
    have b09 := btr b08 b9 b08.size
    have hB_9 := hB_8.below b9 hB_8.lt
    clear hB_8
    have hX_9 := hX_8.below b9 hX_8.lt
    clear hX_8
    have c_hB0 := hB_9.cell 0
    have f_hB0 := hB_9.frozen 0
    have c_hB1 := hB_9.cell 1
    have f_hB1 := hB_9.frozen 1
    have c_hB2 := hB_9.cell 2
    have f_hB2 := hB_9.frozen 2
    have c_hB3 := hB_9.cell 3
    have f_hB3 := hB_9.frozen 3
    have c_hX0 := hX_9.cell 0
    have f_hX0 := hX_9.frozen 0
    have c_hX1 := hX_9.cell 1
    have f_hX1 := hX_9.frozen 1
    have c_hX2 := hX_9.cell 2
    have f_hX2 := hX_9.frozen 2
    have c_hX3 := hX_9.cell 3
    have f_hX3 := hX_9.frozen 3
    go_wp2_with fail
    obtain ⟨w10, hw10⟩ : ∃ W, w9.setCell ⟨w.heap.size, 0, none⟩ (.int .u32 pa) = W := ⟨_, rfl⟩
    have hB_10 := hB_9.set_ 0 (.int .u32 pa)
    simp only [List.setIfInBounds_toArray, List.set_cons_succ, List.set_cons_zero] at hB_10
    have hX_10 := hX_9.far (p := ⟨w.heap.size, 0, none⟩) (by show _ ≠ w.heap.size; omega) (.int .u32 pa)
    have b010 := b09.setCell (p := ⟨w.heap.size, 0, none⟩) (by show _ ≤ w.heap.size; omega) (.int .u32 pa)
    rw [hw10] at hB_10 hX_10 b010
    rw [hw10]
    clear hw10
    clear c_hX0 f_hX0 c_hX1 f_hX1 c_hX2 f_hX2 c_hX3 f_hX3 c_hB0 f_hB0 c_hB1 f_hB1 c_hB2 f_hB2 c_hB3 f_hB3
    clear hB_9
    clear hX_9
    have c_hB0 := hB_10.cell 0
    have f_hB0 := hB_10.frozen 0
    have c_hB1 := hB_10.cell 1
    have f_hB1 := hB_10.frozen 1
    have c_hB2 := hB_10.cell 2
    have f_hB2 := hB_10.frozen 2
    have c_hB3 := hB_10.cell 3
    have f_hB3 := hB_10.frozen 3
    have c_hX0 := hX_10.cell 0
    have f_hX0 := hX_10.frozen 0
    have c_hX1 := hX_10.cell 1
    have f_hX1 := hX_10.frozen 1
    have c_hX2 := hX_10.cell 2
    have f_hX2 := hX_10.frozen 2
    have c_hX3 := hX_10.cell 3
    have f_hX3 := hX_10.frozen 3
    obtain ⟨w11, hw11⟩ : ∃ W, w10.setCell ⟨w.heap.size, 1, none⟩ (.int .i64 pn) = W := ⟨_, rfl⟩
    have hB_11 := hB_10.set_ 1 (.int .i64 pn)
    simp only [List.setIfInBounds_toArray, List.set_cons_succ, List.set_cons_zero] at hB_11
    have hX_11 := hX_10.far (p := ⟨w.heap.size, 1, none⟩) (by show _ ≠ w.heap.size; omega) (.int .i64 pn)
    have b011 := b010.setCell (p := ⟨w.heap.size, 1, none⟩) (by show _ ≤ w.heap.size; omega) (.int .i64 pn)
    rw [hw11] at hB_11 hX_11 b011
    rw [hw11]
    clear hw11
    clear c_hX0 f_hX0 c_hX1 f_hX1 c_hX2 f_hX2 c_hX3 f_hX3 c_hB0 f_hB0 c_hB1 f_hB1 c_hB2 f_hB2 c_hB3 f_hB3
    clear hB_10
    clear hX_10
    have c_hB0 := hB_11.cell 0
    have f_hB0 := hB_11.frozen 0
    have c_hB1 := hB_11.cell 1
    have f_hB1 := hB_11.frozen 1
    have c_hB2 := hB_11.cell 2
    have f_hB2 := hB_11.frozen 2
    have c_hB3 := hB_11.cell 3
    have f_hB3 := hB_11.frozen 3
    have c_hX0 := hX_11.cell 0
    have f_hX0 := hX_11.frozen 0
    have c_hX1 := hX_11.cell 1
    have f_hX1 := hX_11.frozen 1
    have c_hX2 := hX_11.cell 2
    have f_hX2 := hX_11.frozen 2
    have c_hX3 := hX_11.cell 3
    have f_hX3 := hX_11.frozen 3
    obtain ⟨w12, hw12⟩ : ∃ W, w11.setCell ⟨w.heap.size, 2, none⟩ (.int .i64 x) = W := ⟨_, rfl⟩
    have hB_12 := hB_11.set_ 2 (.int .i64 x)
    simp only [List.setIfInBounds_toArray, List.set_cons_succ, List.set_cons_zero] at hB_12
    have hX_12 := hX_11.far (p := ⟨w.heap.size, 2, none⟩) (by show _ ≠ w.heap.size; omega) (.int .i64 x)
    have b012 := b011.setCell (p := ⟨w.heap.size, 2, none⟩) (by show _ ≤ w.heap.size; omega) (.int .i64 x)
    rw [hw12] at hB_12 hX_12 b012
    rw [hw12]
    clear hw12
    clear c_hX0 f_hX0 c_hX1 f_hX1 c_hX2 f_hX2 c_hX3 f_hX3 c_hB0 f_hB0 c_hB1 f_hB1 c_hB2 f_hB2 c_hB3 f_hB3
    clear hB_11
    clear hX_11
    have c_hB0 := hB_12.cell 0
    have f_hB0 := hB_12.frozen 0
    have c_hB1 := hB_12.cell 1
    have f_hB1 := hB_12.frozen 1
    have c_hB2 := hB_12.cell 2
    have f_hB2 := hB_12.frozen 2
    have c_hB3 := hB_12.cell 3
    have f_hB3 := hB_12.frozen 3
    have c_hX0 := hX_12.cell 0
    have f_hX0 := hX_12.frozen 0
    have c_hX1 := hX_12.cell 1
    have f_hX1 := hX_12.frozen 1
    have c_hX2 := hX_12.cell 2
    have f_hX2 := hX_12.frozen 2
    have c_hX3 := hX_12.cell 3
    have f_hX3 := hX_12.frozen 3
    obtain ⟨w13, hw13⟩ : ∃ W, w12.setCell ⟨w.heap.size, 3, none⟩ (.int .i64 y) = W := ⟨_, rfl⟩
    have hB_13 := hB_12.set_ 3 (.int .i64 y)
    simp only [List.setIfInBounds_toArray, List.set_cons_succ, List.set_cons_zero] at hB_13
    have hX_13 := hX_12.far (p := ⟨w.heap.size, 3, none⟩) (by show _ ≠ w.heap.size; omega) (.int .i64 y)
    have b013 := b012.setCell (p := ⟨w.heap.size, 3, none⟩) (by show _ ≤ w.heap.size; omega) (.int .i64 y)
    rw [hw13] at hB_13 hX_13 b013
    rw [hw13]
    clear hw13
    clear c_hX0 f_hX0 c_hX1 f_hX1 c_hX2 f_hX2 c_hX3 f_hX3 c_hB0 f_hB0 c_hB1 f_hB1 c_hB2 f_hB2 c_hB3 f_hB3
    clear hB_12
    clear hX_12
    have c_hB0 := hB_13.cell 0
    have f_hB0 := hB_13.frozen 0
    have c_hB1 := hB_13.cell 1
    have f_hB1 := hB_13.frozen 1
    have c_hB2 := hB_13.cell 2
    have f_hB2 := hB_13.frozen 2
    have c_hB3 := hB_13.cell 3
    have f_hB3 := hB_13.frozen 3
    have c_hX0 := hX_13.cell 0
    have f_hX0 := hX_13.frozen 0
    have c_hX1 := hX_13.cell 1
    have f_hX1 := hX_13.frozen 1
    have c_hX2 := hX_13.cell 2
    have f_hX2 := hX_13.frozen 2
    have c_hX3 := hX_13.cell 3
    have f_hX3 := hX_13.frozen 3
    exact bodyPost_ret (rg_ret2 rfl _ _ w.heap.size _ _ _ _ rfl hB_13) rfl ⟨pa, pn, x, y, true, rfl, hpl.1, HG.out, b013⟩
end Go.Proofs.YtnhkpnohadbcdaaDoor
