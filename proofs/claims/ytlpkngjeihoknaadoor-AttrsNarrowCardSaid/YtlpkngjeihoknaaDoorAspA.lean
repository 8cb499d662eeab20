/- Paths (layer 3): how they stand in cells. No conditions. -/
import Derived.Test.YtlpkngjeihoknaaDoorProg
import Derived.WalkKit
import Derived.WalkSpells
import Derived.WalkLawsBesides
import Derived.Outline
import Derived.Deep.QuietTactic
import Derived.BigQuiet
import Derived.Handy
import Derived.Lib.Hide
import Derived.Test.YtlpkngjeihoknaaDoorNums
import Derived.Test.YtlpkngjeihoknaaDoorDeep
namespace Go.Proofs.YtlpkngjeihoknaaDoor
open Go.RowKit
set_option linter.unusedSimpArgs false
set_option linter.unusedVariables false
/-- A part of a path: its kind, its numbers. -/
abbrev Seg := Int × List Int
/-- Numbers of four bytes that read, by a footprint. -/
def NF (w : World) (S : Nat → Prop) (A : Option Addr) (n : Nat) (l : List Int) : Prop := n = l.length ∧ Rw w S 1 A n (un l) ∧ ∀ x ∈ l, (Lit.int .u32 x).wf = true
section
variable {w w' : World} {S S' : Nat → Prop} {A : Option Addr} {n B : Nat} {l : List Int}
theorem NF.keep (h : NF w S A n l) (hk : Kp w w' S S') : NF w' S' A n l := ⟨h.1, h.2.1.keep hk, h.2.2⟩
theorem NF.ns (h : NF w S A n l) (hS : ∀ b, S b → b < B) : NS .u32 w B A n l := ⟨h.1, h.2.1.reads hS, h.2.2⟩
theorem NF.lt (h : NF w (Lt B) A n l) : NS .u32 w B A n l := h.ns fun _ hb => hb
theorem NF.of (h : NS .u32 w B A n l) (hS : ∀ b, b < B → S b) : NF w S A n l := ⟨h.1, Rw.of_reads h.2.1 (by omega) hS, h.2.2⟩
theorem NF.none_ : NF w S none 0 [] := ⟨rfl, Rw.none_, fun x h => by cases h⟩
/-- Number j, and where it stands. -/
theorem NF.at_ (h : NF w S A n l) {j : Nat} {x : Int} (hj : l[j]? = some x) : ∃ b off, A = some ⟨b, off, none⟩ ∧ S b ∧ w.cell? ⟨b, off + j, none⟩ = some (.int .u32 x) := by
  have hl := (List.getElem?_eq_some_iff.1 hj).1
  obtain ⟨b, off, e, hb, hc⟩ := h.2.1.2 (by have := h.1; omega)
  exact ⟨b, off, e, hb, hc j _ (by unfold un; rw [List.getElem?_map, hj]; rfl)⟩
theorem NF.wf_ (h : NF w S A n l) {j : Nat} {x : Int} (hj : l[j]? = some x) : 0 ≤ x ∧ x ≤ 4294967295 := by
  have := h.2.2 x (List.mem_of_getElem? hj)
  simpa [Lit.wf, IntKind.min, IntKind.max, IntKind.signed, IntKind.bits] using this
end
/-- A part of a path in cells. -/
def rSeg : Rep Seg := fun w S cs x => ∃ (A : Option Addr) (n c : Nat), cs = [.int .i64 x.1, .slice A n c] ∧ NF w S A n x.2 ∧ n ≤ c
theorem rSeg_ok : rSeg.Ok 2 where
  len := by rintro w S cs a ⟨A, n, c, rfl, _⟩; rfl
  one := by
    rintro w S cs a ⟨A, n, c, rfl, _⟩ u hu
    simp at hu
    rcases hu with rfl | rfl <;> rfl
  keep := by
    rintro w w' S S' cs a ⟨A, n, c, rfl, h, hc⟩ hk
    exact ⟨A, n, c, rfl, h.keep hk, hc⟩
theorem DL.segAt {w : World} {S : Nat → Prop} {A : Option Addr} {n : Nat} {l : List Seg} (h : DL rSeg 2 w S A n l) {j : Nat} {x : Seg} (hj : l[j]? = some x) :
    ∃ b off A' n' c', A = some ⟨b, off, none⟩ ∧ S b ∧ w.cell? ⟨b, off + j * 2, none⟩ = some (.int .i64 x.1) ∧ w.cell? ⟨b, off + j * 2 + 1, none⟩ = some (.slice A' n' c') ∧ NF w S A' n' x.2 ∧ n' ≤ c' := by
  obtain ⟨b, off, cs, e, hb, _, hc, A', n', c', rfl, h1, h2⟩ := h.at_ hj
  exact ⟨b, off, A', n', c', e, hb, by simpa using hc 0 _ rfl, by simpa using hc 1 _ rfl, h1, h2⟩
theorem getS {l : List Seg} {j n : Nat} (hn : n = l.length) (hj : j < n) : ∃ x, l[j]? = some x := ⟨_, List.getElem?_eq_getElem (by omega)⟩
/-- How many numbers a path has. -/
def sumN : List Seg → Nat
  | [] => 0
  | x :: l => x.2.length + sumN l
theorem sumN_app (a b : List Seg) : sumN (a ++ b) = sumN a + sumN b := by
  induction a with
  | nil => simp [sumN]
  | cons x a ih => rw [List.cons_append, sumN, sumN, ih]; omega
theorem take_snoc {α : Type} {l : List α} {j : Nat} {x : α} (h : l[j]? = some x) : l.take (j + 1) = l.take j ++ [x] := by
  obtain ⟨g1, g2⟩ := List.getElem?_eq_some_iff.1 h
  rw [List.take_succ_eq_append_getElem g1, g2]
theorem sumN_take {l : List Seg} {j : Nat} {x : Seg} (h : l[j]? = some x) : sumN (l.take (j + 1)) = sumN (l.take j) + x.2.length := by
  rw [take_snoc h, sumN_app]; simp [sumN]
theorem sumN_le (l : List Seg) (j : Nat) : sumN (l.take j) ≤ sumN l := by
  have := sumN_app (l.take j) (l.drop j)
  rw [List.take_append_drop] at this
  omega
theorem sumN_at {l : List Seg} {j : Nat} {x : Seg} (h : l[j]? = some x) : x.2.length ≤ sumN l := by
  have h1 := sumN_take h
  have h2 := sumN_le l (j + 1)
  omega
/-- The same, but at most three hundred of each part. -/
def sumM : List Seg → Nat
  | [] => 0
  | x :: l => min x.2.length 300 + sumM l
theorem sumM_app (a b : List Seg) : sumM (a ++ b) = sumM a + sumM b := by
  induction a with
  | nil => simp [sumM]
  | cons x a ih => rw [List.cons_append, sumM, sumM, ih]; omega
theorem sumM_take {l : List Seg} {j : Nat} {x : Seg} (h : l[j]? = some x) : sumM (l.take (j + 1)) = sumM (l.take j) + min x.2.length 300 := by
  rw [take_snoc h, sumM_app]; simp [sumM]
theorem sumM_le (l : List Seg) (j : Nat) : sumM (l.take j) ≤ sumM l := by
  have := sumM_app (l.take j) (l.drop j)
  rw [List.take_append_drop] at this
  omega
theorem sumM_lt {l : List Seg} (h : sumM l < 300) : sumN l = sumM l := by
  induction l with
  | nil => rfl
  | cons x l ih =>
    rw [sumM] at h
    rw [sumN, sumM, ih (by omega)]
    omega
/-- A path that is short enough has at most as many numbers as its longest part, or three hundred. -/
theorem sumM_few {l : List Seg} {R : Nat} (hR : 300 ≤ R) (h : sumM l ≤ 300) (hx : ∀ x ∈ l, x.2.length ≤ R) : sumN l ≤ R := by
  induction l with
  | nil => simp [sumN]
  | cons x l ih =>
    rw [sumM] at h
    rw [sumN]
    have h1 := hx x (by simp)
    by_cases h2 : x.2.length = 0
    · have := ih (by omega) (fun y hy => hx y (by simp [hy]))
      omega
    · have h3 := sumM_lt (l := l) (by omega)
      by_cases h4 : 300 ≤ x.2.length
      · omega
      · omega
def fewA (l : List Seg) : Bool := decide (l.length ≤ 12 ∧ sumM l ≤ 300)
/-- What a slice of numbers of four bytes holds at most. -/
abbrev big32 : Nat := 35184372087808
theorem fewA_of {l : List Seg} (h : fewA l = true) (hx : ∀ x ∈ l, x.2.length ≤ big32) : l.length ≤ 12 ∧ sumN l ≤ big32 := by
  have h1 : l.length ≤ 12 ∧ sumM l ≤ 300 := by simpa [fewA] using h
  exact ⟨h1.1, sumM_few (by unfold big32; omega) h1.2 hx⟩
set_option maxHeartbeats 1000000 in
set_option maxRecDepth 100000 in
theorem law03Few (A : Option Addr) (n c : Nat) (l : List Seg) (w : World) (hd : DL rSeg 2 w (Lo w) A n l) :
    Calls Tryd.prog 16 #[.slice A n c] w fun en w' => en = .returned (.bool (fewA l)) ∧ Below w.heap.size w w' := by
  have HN := Lib.hid hd.len
  by_cases hl : 12 < n
  · have e1 : decide (12 < (n : Int)) = true := decide_eq_true (by omega)
    have HF := Lib.hid (show fewA l = false from decide_eq_false (by have := HN.out; omega))
    go_enter Tryd.func16, Tryd.ntmps16
    go_wp2_with fail
    go_ret
    exact ⟨ret_b HF.out.symm, Below.refl _ _⟩
  have e1 : decide (12 < (n : Int)) = false := decide_eq_false (by omega)
  go_enter Tryd.func16, Tryd.ntmps16
  go_wp2_with fail
  go_loop [3, 4] (fun s i => ∃ j t : Nat, j ≤ n ∧ i = .int .i64 j ∧ s = .int .i64 t ∧ t ≤ 300 ∧ Hid (t = sumM (l.take j))) (fun _ i => n - (intOf i).toNat)
  case atStart => exact ⟨0, 0, by omega, rfl, rfl, by omega, Lib.hid (by simp [sumM])⟩
  case round =>
    obtain ⟨j, t, hj, rfl, rfl, ht, HT⟩ := hrel
    by_cases hlt : j < n
    · obtain ⟨x, hx⟩ := getS HN.out hlt
      have e2 : decide ((j : Int) < n) = true := decide_eq_true (by omega)
      obtain ⟨b, off, A', n', c', rfl, hb, k0, k1, hnf, hnc'⟩ := hd.segAt hx
      have HX := Lib.hid hx
      have HL := Lib.hid hnf.1
      have HST := Lib.hid (sumM_take hx)
      have HSL := Lib.hid (sumM_le l (j + 1))
      clear hx hnf k0
      by_cases hc : 300 < n'
      · have q1 : (300 : Int) < n' := by omega
        have wt : IntKind.i64.wrap ((t : Int) + 300) = (t : Int) + 300 := IntWalk.i64_in _ ⟨by omega, by omega⟩
        by_cases hbig : 300 < (t : Int) + 300
        · have e3 : decide (300 < (t : Int) + 300) = true := decide_eq_true (by omega)
          have HF := Lib.hid (show fewA l = false from decide_eq_false (by have := HL.out; have := HT.out; have := HST.out; have := HSL.out; omega))
          clear hc hbig
          go_wp2_with fail
          go_ret
          exact ⟨ret_b HF.out.symm, Below.refl _ _⟩
        · have e3 : decide (300 < (t : Int) + 300) = false := decide_eq_false (by omega)
          have HS := Lib.hid (show ((t : Int) + 300).toNat = sumM (l.take (j + 1)) by have := HL.out; have := HT.out; have := HST.out; omega)
          have hbig2 := Lib.hid hbig
          clear hc hbig
          go_wp2_with fail
          go_round
          case rel => exact ⟨j + 1, ((t : Int) + 300).toNat, by omega, by go_num, by rw [Int.toNat_of_nonneg (by omega)], by have := hbig2.out; omega, HS⟩
          case measure => simp [intOf]; omega
      · have q1 : ¬ (300 : Int) < n' := by omega
        have wt : IntKind.i64.wrap ((t : Int) + n') = (t : Int) + n' := IntWalk.i64_in _ ⟨by omega, by omega⟩
        by_cases hbig : 300 < (t : Int) + n'
        · have e3 : decide (300 < (t : Int) + n') = true := decide_eq_true (by omega)
          have HF := Lib.hid (show fewA l = false from decide_eq_false (by have := HL.out; have := HT.out; have := HST.out; have := HSL.out; omega))
          clear hc hbig
          go_wp2_with fail
          go_ret
          exact ⟨ret_b HF.out.symm, Below.refl _ _⟩
        · have e3 : decide (300 < (t : Int) + n') = false := decide_eq_false (by omega)
          have HS := Lib.hid (show ((t : Int) + n').toNat = sumM (l.take (j + 1)) by have := HL.out; have := HT.out; have := HST.out; omega)
          have hbig2 := Lib.hid hbig
          clear hc hbig
          go_wp2_with fail
          go_round
          case rel => exact ⟨j + 1, ((t : Int) + n').toNat, by omega, by go_num, by rw [Int.toNat_of_nonneg (by omega)], by have := hbig2.out; omega, HS⟩
          case measure => simp [intOf]; omega
    · have e2 : decide ((j : Int) < n) = false := decide_eq_false (by omega)
      have HF := Lib.hid (show fewA l = true from decide_eq_true (by have h1 := HN.out; have h2 := HT.out; rw [List.take_of_length_le (by omega)] at h2; omega))
      go_wp2_with fail
      go_ret
      exact ⟨ret_b HF.out.symm, Below.refl _ _⟩
end Go.Proofs.YtlpkngjeihoknaaDoor
