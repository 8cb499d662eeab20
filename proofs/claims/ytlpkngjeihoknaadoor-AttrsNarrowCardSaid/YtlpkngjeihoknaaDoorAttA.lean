/- Walks of layer 4 (attributes): how they stand in cells; which kinds are known, which next ones may be; what nothing says; the document's. Conditions: the table of looks (LookTab). -/
import Derived.Test.YtlpkngjeihoknaaDoorProg
import Derived.WalkKit
import Derived.WalkSpells
import Derived.WalkLawsBesides
import Derived.Outline
import Derived.Deep.QuietTactic
import Derived.BigQuiet
import Derived.Handy
import Derived.Lib.Hide
import Derived.Deep.DeepCutAuto
import Derived.Deep.CutBlock
import Derived.Test.YtlpkngjeihoknaaDoorAspD
namespace Go.Proofs.YtlpkngjeihoknaaDoor
open Go.RowKit
set_option linter.unusedSimpArgs false
set_option linter.unusedVariables false
/-- What kinds look like. -/
def lookTbl : List (Nat × Nat × Nat) := [(0, 0, 0), (64, 1, 1), (64, 0, 65536), (64, 4, 4), (128, 4, 4), (64, 4, 4), (64, 0, 0), (192, 6, 8), (192, 0, 65536), (0, 0, 0), (0, 0, 0), (0, 0, 0), (0, 0, 0), (0, 0, 0), (0, 0, 0), (0, 0, 0), (0, 0, 0), (192, 0, 65536), (192, 0, 65536)]
def lookAt (k : Nat) : Nat × Nat × Nat := (lookTbl[k]?).getD (0, 0, 0)
/-- The table's cells. -/
def LookTab (w : World) : Prop := ∀ k : Nat, k < 19 → w.cell? ⟨0, k * 3, none⟩ = some (.int .i64 ((lookAt k).1 : Int)) ∧ w.cell? ⟨0, k * 3 + 1, none⟩ = some (.int .i64 ((lookAt k).2.1 : Int)) ∧ w.cell? ⟨0, k * 3 + 2, none⟩ = some (.int .i64 ((lookAt k).2.2 : Int))
theorem LookTab.call {w w' : World} (h : LookTab w) (hb : Below w.heap.size w w') : LookTab w' := fun k hk => by
  have h1 := h k hk
  exact ⟨(hb.cell (lt_of_cell h1.1)).trans h1.1, (hb.cell (lt_of_cell h1.2.1)).trans h1.2.1, (hb.cell (lt_of_cell h1.2.2)).trans h1.2.2⟩
/-- Flags of a kind that is known. -/
def flagsA (k : Int) : Int := if k = 1 ∨ k = 2 ∨ k = 3 ∨ k = 5 ∨ k = 6 then 64 else if k = 4 then 128 else if k = 7 ∨ k = 8 ∨ k = 17 ∨ k = 18 then 192 else 0
def knownA (k : Int) : Bool := decide (flagsA k ≠ 0)
theorem flags_look : ∀ k : Fin 19, flagsA (k.val : Int) = ((lookAt k.val).1 : Int) := by decide
theorem flags_out {k : Int} (h : k < 0 ∨ 18 < k) : flagsA k = 0 := by
  unfold flagsA
  rw [if_neg (by omega), if_neg (by omega), if_neg (by omega)]
theorem known_look {k : Nat} (h : k < 19) : knownA (k : Int) = ((lookAt k).1 != 0) := by
  unfold knownA
  rw [flags_look ⟨k, h⟩]
  by_cases h0 : (lookAt k).1 = 0
  · rw [h0]; rfl
  · have h1 : (((lookAt k).1 : Nat) : Int) ≠ 0 := by omega
    rw [decide_eq_true h1]
    simp [h0]
set_option maxHeartbeats 1000000 in
set_option maxRecDepth 100000 in
theorem attKnown (k : Int) (w : World) (hk : (Lit.int .i64 k).wf = true) (ht : LookTab w) :
    Calls Tryd.prog 50 #[.int .i64 k] w fun en w' => en = .returned (.bool (knownA k)) ∧ w = w' := by
  by_cases h0 : 0 ≤ k
  case neg =>
    have d1 : decide (0 ≤ k) = false := decide_eq_false h0
    have HF := Lib.hid (show knownA k = false by unfold knownA; rw [flags_out (by omega)]; rfl)
    go_enter Tryd.func50, Tryd.ntmps50
    go_wp2_with fail
    go_ret
    exact ⟨ret_b HF.out.symm, rfl⟩
  by_cases h19 : k < 19
  case neg =>
    have d1 : decide (0 ≤ k) = true := decide_eq_true h0
    have d2 : decide (k < 19) = false := decide_eq_false h19
    have HF := Lib.hid (show knownA k = false by unfold knownA; rw [flags_out (by omega)]; rfl)
    go_enter Tryd.func50, Tryd.ntmps50
    go_wp2_with fail
    go_ret
    exact ⟨ret_b HF.out.symm, rfl⟩
  obtain ⟨N, rfl⟩ := Int.eq_ofNat_of_zero_le h0
  have hN : N < 19 := by omega
  have d2 : decide ((N : Int) < 19) = true := decide_eq_true h19
  have d2' : decide (N < 19) = true := decide_eq_true hN
  have c0 := (ht N hN).1
  have HF := Lib.hid (known_look hN)
  obtain ⟨f, hf⟩ : ∃ f, (lookAt N).1 = f := ⟨_, rfl⟩
  rw [hf] at c0 HF
  clear hf
  cases hz : (f != 0)
  · have t1 : ((f : Int) != 0) = false := by
      have : f = 0 := by simpa using hz
      subst this; rfl
    have HF2 := Lib.hid (show knownA (N : Int) = false by rw [HF.out, hz])
    go_enter Tryd.func50, Tryd.ntmps50
    go_wp2_with fail
    go_ret
    exact ⟨ret_b HF2.out.symm, rfl⟩
  · have t1 : ((f : Int) != 0) = true := by
      have : f ≠ 0 := by simpa using hz
      simp; omega
    have HF2 := Lib.hid (show knownA (N : Int) = true by rw [HF.out, hz])
    go_enter Tryd.func50, Tryd.ntmps50
    go_wp2_with fail
    go_ret
    exact ⟨ret_b HF2.out.symm, rfl⟩
set_option maxHeartbeats 1000000 in
set_option maxRecDepth 100000 in
theorem refFlags04 (k : Int) (w : World) :
    Calls Tryd.prog 51 #[.int .i64 k] w fun en w' => en = .returned (.int .i64 (flagsA k)) ∧ w = w' := by
  by_cases h : k = 1 ∨ k = 2 ∨ k = 3 ∨ k = 5 ∨ k = 6 ∨ k = 4 ∨ k = 7 ∨ k = 8 ∨ k = 17 ∨ k = 18
  · rcases h with rfl | rfl | rfl | rfl | rfl | rfl | rfl | rfl | rfl | rfl
    all_goals
      go_enter Tryd.func51, Tryd.ntmps51
      go_wp2_with fail
      go_ret
      exact ⟨rfl, rfl⟩
  · have HF := Lib.hid (show flagsA k = 0 by unfold flagsA; rw [if_neg (by omega), if_neg (by omega), if_neg (by omega)])
    have e1 : (k == 1) = false := by simp; omega
    have e2 : (k == 2) = false := by simp; omega
    have e3 : (k == 3) = false := by simp; omega
    have e4 : (k == 4) = false := by simp; omega
    have e5 : (k == 5) = false := by simp; omega
    have e6 : (k == 6) = false := by simp; omega
    have e7 : (k == 7) = false := by simp; omega
    have e8 : (k == 8) = false := by simp; omega
    have e17 : (k == 17) = false := by simp; omega
    have e18 : (k == 18) = false := by simp; omega
    clear h
    go_enter Tryd.func51, Tryd.ntmps51
    go_wp2_with fail
    go_ret
    exact ⟨by rw [HF.out]; rfl, rfl⟩
/-- Whether a number may be a next one. -/
def nextA (a : Int) : Bool := decide (a / 16777216 ≠ 0 ∧ a / 16777216 ≠ 127 ∧ a / 16777216 < 224)
set_option maxHeartbeats 1000000 in
set_option maxRecDepth 100000 in
theorem refNext04 (a : Int) (w : World) (h0 : 0 ≤ a) (h1 : a < 4294967296) :
    Calls Tryd.prog 53 #[.int .u32 a] w fun en w' => en = .returned (.bool (nextA a)) ∧ w = w' := by
  obtain ⟨f, hf⟩ : ∃ f, a / 16777216 = f := ⟨_, rfl⟩
  have hq : a.tdiv 16777216 = f := by rw [Int.tdiv_eq_ediv_of_nonneg h0]; exact hf
  have hfb : 0 ≤ f ∧ f < 256 := by omega
  have HF := Lib.hid (show nextA a = decide (f ≠ 0 ∧ f ≠ 127 ∧ f < 224) by unfold nextA; rw [hf])
  have w1 : IntKind.i64.wrap a = a := IntWalk.i64_in _ ⟨by omega, by omega⟩
  have w2 : IntKind.i64.wrap f = f := IntWalk.i64_in _ ⟨by omega, by omega⟩
  clear hf
  by_cases c0 : f = 0
  · have HG := Lib.hid (show nextA a = false by rw [HF.out]; exact decide_eq_false (by omega))
    have t0 : (f != 0) = false := by simp; omega
    clear c0
    go_enter Tryd.func53, Tryd.ntmps53
    go_wp2_with fail
    go_ret
    exact ⟨ret_b HG.out.symm, rfl⟩
  have t0 : (f != 0) = true := by simp; omega
  by_cases c1 : f = 127
  · have HG := Lib.hid (show nextA a = false by rw [HF.out]; exact decide_eq_false (by omega))
    have t1 : (f != 127) = false := by simp; omega
    clear c0 c1
    go_enter Tryd.func53, Tryd.ntmps53
    go_wp2_with fail
    go_ret
    exact ⟨ret_b HG.out.symm, rfl⟩
  have t1 : (f != 127) = true := by simp; omega
  by_cases c2 : f < 224
  · have HG := Lib.hid (show nextA a = true by rw [HF.out]; exact decide_eq_true (by omega))
    have t2 : decide (f < 224) = true := decide_eq_true c2
    clear c0 c1
    go_enter Tryd.func53, Tryd.ntmps53
    go_wp2_with fail
    go_ret
    exact ⟨ret_b HG.out.symm, rfl⟩
  · have HG := Lib.hid (show nextA a = false by rw [HF.out]; exact decide_eq_false (by omega))
    have t2 : decide (f < 224) = false := decide_eq_false c2
    clear c0 c1
    go_enter Tryd.func53, Tryd.ntmps53
    go_wp2_with fail
    go_ret
    exact ⟨ret_b HG.out.symm, rfl⟩
set_option maxHeartbeats 1000000 in
set_option maxRecDepth 100000 in
theorem attNext (a : Int) (w : World) (h0 : 0 ≤ a) (h1 : a < 4294967296) :
    Calls Tryd.prog 52 #[.int .u32 a] w fun en w' => en = .returned (.bool (nextA a)) ∧ w = w' := by
  obtain ⟨f, hf⟩ : ∃ f, a / 16777216 = f := ⟨_, rfl⟩
  have hfb : 0 ≤ f ∧ f < 256 := by omega
  have HF := Lib.hid (show nextA a = decide (f ≠ 0 ∧ f ≠ 127 ∧ f < 224) by unfold nextA; rw [hf])
  by_cases c0 : f = 0
  · have HG := Lib.hid (show nextA a = false by rw [HF.out]; exact decide_eq_false (by omega))
    have t0 : (f != 0) = false := by simp; omega
    clear c0
    go_enter Tryd.func52, Tryd.ntmps52
    go_wp2_with fail
    go_ret
    exact ⟨ret_b HG.out.symm, rfl⟩
  have t0 : (f != 0) = true := by simp; omega
  by_cases c1 : f = 127
  · have HG := Lib.hid (show nextA a = false by rw [HF.out]; exact decide_eq_false (by omega))
    have t1 : (f != 127) = false := by simp; omega
    clear c0 c1
    go_enter Tryd.func52, Tryd.ntmps52
    go_wp2_with fail
    go_ret
    exact ⟨ret_b HG.out.symm, rfl⟩
  have t1 : (f != 127) = true := by simp; omega
  by_cases c2 : f < 224
  · have HG := Lib.hid (show nextA a = true by rw [HF.out]; exact decide_eq_true (by omega))
    have t2 : decide (f < 224) = true := decide_eq_true c2
    clear c0 c1
    go_enter Tryd.func52, Tryd.ntmps52
    go_wp2_with fail
    go_ret
    exact ⟨ret_b HG.out.symm, rfl⟩
  · have HG := Lib.hid (show nextA a = false by rw [HF.out]; exact decide_eq_false (by omega))
    have t2 : decide (f < 224) = false := decide_eq_false c2
    clear c0 c1
    go_enter Tryd.func52, Tryd.ntmps52
    go_wp2_with fail
    go_ret
    exact ⟨ret_b HG.out.symm, rfl⟩
def numA (k : Int) : Bool := decide (-1 ≤ k ∧ k ≤ 4294967295)
set_option maxHeartbeats 1000000 in
theorem attNumber (k : Int) (w : World) :
    Calls Tryd.prog 89 #[.int .i64 k] w fun en w' => en = .returned (.bool (numA k)) ∧ w = w' := by
  by_cases h0 : -1 ≤ k
  · by_cases h1 : k ≤ 4294967295
    · have d1 : decide (-1 ≤ k) = true := decide_eq_true h0
      have d2 : decide (k ≤ 4294967295) = true := decide_eq_true h1
      have HF := Lib.hid (show numA k = true from decide_eq_true ⟨h0, h1⟩)
      go_enter Tryd.func89, Tryd.ntmps89
      go_wp2_with fail
      go_ret
      exact ⟨ret_b HF.out.symm, rfl⟩
    · have d1 : decide (-1 ≤ k) = true := decide_eq_true h0
      have d2 : decide (k ≤ 4294967295) = false := decide_eq_false h1
      have HF := Lib.hid (show numA k = false from decide_eq_false (by omega))
      go_enter Tryd.func89, Tryd.ntmps89
      go_wp2_with fail
      go_ret
      exact ⟨ret_b HF.out.symm, rfl⟩
  · have d1 : decide (-1 ≤ k) = false := decide_eq_false h0
    have HF := Lib.hid (show numA k = false from decide_eq_false (by omega))
    go_enter Tryd.func89, Tryd.ntmps89
    go_wp2_with fail
    go_ret
    exact ⟨ret_b HF.out.symm, rfl⟩
/-- An attribute that is not known. -/
abbrev RawV := Int × Int × List UInt8
def rRaw : Rep RawV := fun w S cs x => ∃ (A : Option Addr) (n c : Nat), cs = [.int .i64 x.1, .int .i64 x.2.1, .slice A n c] ∧ BF w S A n x.2.2 ∧ n ≤ c ∧ (Lit.int .i64 x.1).wf = true ∧ (Lit.int .i64 x.2.1).wf = true
theorem rRaw_ok : rRaw.Ok 3 where
  len := by rintro w S cs a ⟨A, n, c, rfl, _⟩; rfl
  one := by
    rintro w S cs a ⟨A, n, c, rfl, _⟩ u hu
    simp at hu
    rcases hu with rfl | rfl | rfl <;> rfl
  keep := by
    rintro w w' S S' cs a ⟨A, n, c, rfl, h, hc⟩ hk
    exact ⟨A, n, c, rfl, h.keep hk, hc⟩
theorem DL.rawAt {w : World} {S : Nat → Prop} {A : Option Addr} {n : Nat} {l : List RawV} (h : DL rRaw 3 w S A n l) {j : Nat} {x : RawV} (hj : l[j]? = some x) :
    ∃ b off A' n' c', A = some ⟨b, off, none⟩ ∧ S b ∧ w.cell? ⟨b, off + j * 3, none⟩ = some (.int .i64 x.1) ∧ w.cell? ⟨b, off + j * 3 + 1, none⟩ = some (.int .i64 x.2.1) ∧ w.cell? ⟨b, off + j * 3 + 2, none⟩ = some (.slice A' n' c') ∧ BF w S A' n' x.2.2 ∧ n' ≤ c' ∧ (Lit.int .i64 x.1).wf = true ∧ (Lit.int .i64 x.2.1).wf = true := by
  obtain ⟨b, off, cs, e, hb, _, hc, A', n', c', rfl, h1, h2, h3⟩ := h.at_ hj
  exact ⟨b, off, A', n', c', e, hb, by simpa using hc 0 _ rfl, by simpa using hc 1 _ rfl, by simpa using hc 2 _ rfl, h1, h2, h3⟩
/-- What is said of a route. -/
structure At where
  origin : Int
  path : List Seg
  next : Int
  med : Int
  pref : Int
  atomic : Bool
  hasAggr : Bool
  aggrAS : Int
  aggrAddr : Int
  comms : List Int
  raws : List RawV
/-- Its cells; the three slices stand where they stand. -/
def atC (a : At) (P C R : Hd) : Array Value := #[.int .i64 a.origin, .slice P.1 P.2.1 P.2.2, .int .u32 a.next, .int .i64 a.med, .int .i64 a.pref, .bool a.atomic, .bool a.hasAggr, .int .u32 a.aggrAS, .int .u32 a.aggrAddr, .slice C.1 C.2.1 C.2.2, .slice R.1 R.2.1 R.2.2]
theorem att_info : (Tryd.prog.info? 54).map (fun i => (i.zero, i.size, i.bytes)) = some (some (.agg #[.int .i64 0, .slice none 0 0, .int .u32 0, .int .i64 0, .int .i64 0, .bool false, .bool false, .int .u32 0, .int .u32 0, .slice none 0 0, .slice none 0 0]), 11, 120) := by kernel_rfl
end Go.Proofs.YtlpkngjeihoknaaDoor
