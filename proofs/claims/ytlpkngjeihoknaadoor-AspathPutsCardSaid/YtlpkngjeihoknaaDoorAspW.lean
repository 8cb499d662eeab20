/- Plain law of layer 3 (paths): a right path that is put is read as it was, or its wide numbers as one number. No conditions. -/
import Derived.Test.YtlpkngjeihoknaaDoorAspT
import Derived.Test.YtlpkngjeihoknaaDoorAspN
namespace Go.Proofs.YtlpkngjeihoknaaDoor
open Go.RowKit
set_option linter.unusedVariables false
set_option linter.unusedSimpArgs false
/-- A number as it is read. -/
def nrw (wide : Bool) (y : Int) : Int := if wide = true then y else if 65535 < y then 23456 else y
def nseg (wide : Bool) (x : Seg) : Seg := (x.1, x.2.map (nrw wide))
theorem asB_sz (wide : Bool) (y : Int) : (asB wide y).length = szA wide := by
  unfold asB szA b32 b16
  cases wide
  · simp only [Bool.false_eq_true, if_false]
    split <;> rfl
  · rfl
theorem asB_num (wide : Bool) {y : Int} (h0 : 0 ≤ y) (h1 : y ≤ 4294967295) : (numL (asB wide y) : Int) = nrw wide y := by
  unfold asB nrw
  cases wide
  · simp only [Bool.false_eq_true, if_false]
    split
    · exact numL_b16 (by omega) (by omega)
    · exact numL_b16 h0 (by omega)
  · simp only [if_true]
    exact numL_b32 h0 (by omega)
theorem numsO_put (wide : Bool) : ∀ (zs : List Int) (t : List UInt8), (∀ y ∈ zs, 0 ≤ y ∧ y ≤ 4294967295) → numsO (szA wide) zs.length (zs.flatMap (asB wide) ++ t) = some (zs.map (nrw wide), t)
  | [], t, _ => rfl
  | y :: zs, t, h => by
    have hy := h y (by simp)
    rw [List.flatMap_cons, List.append_assoc, List.length_cons, numsO, if_neg (by rw [List.length_append, asB_sz]; omega), List.drop_left' (asB_sz wide y), List.take_left' (asB_sz wide y), numsO_put wide zs t (fun z hz => h z (by simp [hz])), asB_num wide hy.1 hy.2]
    rfl
theorem ub_len {k : Nat} (h : k ≤ 255) : (ub (IntKind.u8.wrap (k : Int))).toNat = k := by
  have e : IntKind.u8.wrap (k : Int) = k := by rw [IntKind.wrap_u8]; omega
  rw [e]
  have := ub_toNat (e := (k : Int)) (by omega) (by omega)
  omega
theorem oneO_put (wide : Bool) {x : Seg} (h : okP x) (hl : x.2.length ≤ 255) (t : List UInt8) : oneO (szA wide) (segB wide x ++ t) = some (nseg wide x, t) := by
  obtain ⟨k, zs⟩ := x
  obtain ⟨hk, _, hw⟩ := h
  simp only at hk hw hl
  unfold segB
  simp only [List.cons_append, List.nil_append, oneO]
  rw [ub_len hl, numsO_put wide zs t hw]
  have e : ((ub (IntKind.u8.wrap k)).toNat : Int) = k := by
    rcases hk with rfl | rfl <;> decide
  simp only [Option.map_some, nseg, e]
theorem segsO_put (wide : Bool) : ∀ (l : List Seg) (f : Nat), l.length ≤ f → (∀ x ∈ l, okP x ∧ x.2.length ≤ 255) → segsO (szA wide) f (putA wide l) = some (l.map (nseg wide))
  | [], f, _, _ => segsO_nil _ _
  | x :: l, 0, hf, _ => by simp at hf
  | x :: l, f + 1, hf, h => by
    have hx := h x (by simp)
    have e : putA wide (x :: l) = segB wide x ++ putA wide l := by simp [putA]
    have ho := oneO_put wide hx.1 hx.2 (putA wide l)
    have ih := segsO_put wide l f (by simp at hf; omega) (fun y hy => h y (by simp [hy]))
    rw [e]
    obtain ⟨b, bs, hb⟩ : ∃ b bs, segB wide x ++ putA wide l = b :: bs := ⟨_, _, rfl⟩
    rw [hb] at ho ⊢
    rw [segsO, ho]
    simp only
    rw [ih]
    rfl
theorem nseg_sum (wide : Bool) (l : List Seg) : sumN (l.map (nseg wide)) = sumN l := by
  induction l with
  | nil => rfl
  | cons x l ih => rw [List.map_cons, sumN, sumN, ih]; simp [nseg]
theorem nseg_count (wide : Bool) (l : List Seg) : countA (l.map (nseg wide)) = countA l := by
  induction l with
  | nil => rfl
  | cons x l ih => rw [List.map_cons, countA, countA, ih]; simp [nseg]
theorem nseg_ok (wide : Bool) (l : List Seg) : (l.map (nseg wide)).all okSeg = l.all okSeg := by
  induction l with
  | nil => rfl
  | cons x l ih => rw [List.map_cons, List.all_cons, List.all_cons, ih]; simp [nseg, okSeg]
theorem nseg_right (wide : Bool) (l : List Seg) : rightA (l.map (nseg wide)) = rightA l := by
  unfold rightA
  rw [nseg_ok, nseg_sum, List.length_map]
theorem nseg_wide (l : List Seg) : l.map (nseg true) = l := by
  have : ∀ x : Seg, nseg true x = x := by
    intro x
    unfold nseg
    rw [show nrw true = id from by funext y; rfl, List.map_id]
  rw [show nseg true = id from by funext x; exact this x, List.map_id]
/-- What is put is read. -/
theorem read_put {l : List Seg} (wide : Bool) (h : rightA l = true) (hw : WF l) : readA wide (putA wide l) = some (l.map (nseg wide)) := by
  have hr := rightA_of h
  have hok := okP_of h hw
  have hs : segsO (szA wide) 9 (putA wide l) = some (l.map (nseg wide)) := segsO_put wide l 9 (by omega) (fun x hx => ⟨hok x hx, by
    obtain ⟨i, hi⟩ := List.getElem?_of_mem hx
    have := sumN_at hi
    omega⟩)
  unfold readA
  rw [hs]
  simp only
  rw [nseg_right, h, if_pos rfl]
end Go.Proofs.YtlpkngjeihoknaaDoor
