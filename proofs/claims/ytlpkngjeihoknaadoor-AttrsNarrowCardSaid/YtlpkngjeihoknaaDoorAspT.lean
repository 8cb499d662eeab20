/- Plain law of layer 3 (paths): which path bytes say. No program in sight but the numbers of a reader. -/
import Derived.Test.YtlpkngjeihoknaaDoorProg
import Derived.WalkKit
import Derived.WalkSpells
import Derived.WalkLawsBesides
import Derived.Outline
import Derived.Deep.QuietTactic
import Derived.BigQuiet
import Derived.Handy
import Derived.Lib.Hide
import Derived.Test.YtlpkngjeihoknaaDoorRefRD
import Derived.Test.YtlpkngjeihoknaaDoorReaderTwo
import Derived.Test.YtlpkngjeihoknaaDoorRdMore
import Derived.Test.YtlpkngjeihoknaaDoorAspI
namespace Go.Proofs.YtlpkngjeihoknaaDoor
open Go.RowKit
set_option linter.unusedSimpArgs false
set_option linter.unusedVariables false
/-- So many numbers of sz bytes each, and what stands behind them. -/
def numsO (sz : Nat) : Nat → List UInt8 → Option (List Int × List UInt8)
  | 0, t => some ([], t)
  | n + 1, t => if t.length < sz then none else (numsO sz n (t.drop sz)).map fun p => ((numL (t.take sz) : Int) :: p.1, p.2)
/-- One part, and what stands behind it. -/
def oneO (sz : Nat) : List UInt8 → Option (Seg × List UInt8)
  | k :: c :: t => (numsO sz c.toNat t).map fun p => (((k.toNat : Int), p.1), p.2)
  | _ => none
def segsO (sz : Nat) : Nat → List UInt8 → Option (List Seg)
  | 0, _ => some []
  | _ + 1, [] => some []
  | f + 1, l@(_ :: _) => match oneO sz l with
    | none => none
    | some (x, t) => (segsO sz f t).map (x :: ·)
def szA (wide : Bool) : Nat := if wide then 4 else 2
/-- The path that bytes say. -/
def readA (wide : Bool) (l : List UInt8) : Option (List Seg) :=
  match segsO (szA wide) 9 l with
  | some M => if rightA M = true then some M else none
  | none => none
/-- What a round over numbers keeps: t0 stood there at first. -/
def InvN (sz C : Nat) (t0 : List UInt8) (s0 : Bool) (acc : List Int) (m : Nat) (t : List UInt8) (s : Bool) : Prop :=
  acc.length + m = C ∧ t.length ≤ t0.length ∧ (s = false → s0 = false ∧ numsO sz C t0 = (numsO sz m t).map fun p => (acc ++ p.1, p.2)) ∧ (s = true → s0 = true ∨ numsO sz C t0 = none)
theorem InvN.start (sz C : Nat) (t0 : List UInt8) (s0 : Bool) : InvN sz C t0 s0 [] C t0 s0 := by
  refine ⟨by simp, Nat.le_refl _, fun h => ⟨h, ?_⟩, fun h => .inl h⟩
  cases numsO sz C t0 <;> simp
theorem tk_no {l : List UInt8} {k : Nat} (h : l.length < k) : tkShort l false k = true ∧ tkLeft l false k = l ∧ tkOut l false k = [] := by
  have hor : false = true ∨ (k : Int) < 0 ∨ (l.length : Int) < k := .inr (.inr (by omega))
  exact ⟨by rw [tkShort, decide_eq_true hor], by rw [tkLeft, if_pos hor], by rw [tkOut, if_pos hor]⟩
theorem tk_was (l : List UInt8) (k : Int) : tkShort l true k = true ∧ tkLeft l true k = l ∧ tkOut l true k = [] := by
  have hor : true = true ∨ (k : Int) < 0 ∨ (l.length : Int) < k := .inl rfl
  exact ⟨by rw [tkShort, decide_eq_true hor], by rw [tkLeft, if_pos hor], by rw [tkOut, if_pos hor]⟩
theorem InvN.step {sz C m : Nat} {t0 t : List UInt8} {s0 : Bool} {acc : List Int} (h : InvN sz C t0 s0 acc (m + 1) t false) :
    InvN sz C t0 s0 (acc ++ [(numL (tkOut t false sz) : Int)]) m (tkLeft t false sz) (tkShort t false sz) := by
  obtain ⟨h1, h2, h3, _⟩ := h
  obtain ⟨h3, h4⟩ := h3 rfl
  by_cases hl : t.length < sz
  · obtain ⟨e1, e2, e3⟩ := tk_no hl
    rw [e1, e2, e3]
    refine ⟨by simp; omega, h2, fun h => (by cases h), fun _ => .inr ?_⟩
    rw [h4, numsO, if_pos hl]; rfl
  · obtain ⟨e1, e2, e3⟩ := tk_ok (l := t) (k := sz) (by omega)
    rw [e1, e2, e3]
    refine ⟨by simp; omega, by rw [List.length_drop]; omega, fun _ => ⟨h3, ?_⟩, fun h => (by cases h)⟩
    rw [h4, numsO, if_neg hl, Option.map_map]
    congr 1
    funext p
    simp
theorem InvN.done {sz C : Nat} {t0 t : List UInt8} {s0 : Bool} {acc : List Int} (h : InvN sz C t0 s0 acc 0 t false) : numsO sz C t0 = some (acc, t) := by
  rw [(h.2.2.1 rfl).2, numsO]
  simp
/-- What a round over parts keeps. -/
def InvO (sz : Nat) (l0 : List UInt8) (M : List Seg) (f : Nat) (t : List UInt8) (s : Bool) : Prop :=
  M.length + f = 9 ∧ t.length ≤ l0.length ∧ sumN M ≤ 255 * M.length ∧ (s = false → segsO sz 9 l0 = (segsO sz f t).map (M ++ ·)) ∧ (s = true → segsO sz 9 l0 = none)
theorem InvO.start (sz : Nat) (l0 : List UInt8) : InvO sz l0 [] 9 l0 false := by
  refine ⟨rfl, Nat.le_refl _, Nat.le_refl _, fun _ => ?_, fun h => (by cases h)⟩
  cases segsO sz 9 l0 <;> simp
theorem InvO.step {sz f m K C : Nat} {l0 t t1 t2 t3 : List UInt8} {s1 s2 s3 : Bool} {M : List Seg} {acc : List Int} (h : InvO sz l0 M (f + 1) t false) (hne : t ≠ [])
    (e1 : numL (tkOut t false (1 : Nat)) = K ∧ tkLeft t false (1 : Nat) = t1 ∧ tkShort t false (1 : Nat) = s1) (e2 : numL (tkOut t1 s1 (1 : Nat)) = C ∧ tkLeft t1 s1 (1 : Nat) = t2 ∧ tkShort t1 s1 (1 : Nat) = s2)
    (hi : InvN sz C t2 s2 acc m t3 s3) (hd : s3 = true ∨ m = 0) : InvO sz l0 (M ++ [((K : Int), acc)]) f t3 s3 := by
  obtain ⟨h1, h2, h3, h4, _⟩ := h
  have h4 := h4 rfl
  obtain ⟨k, r, rfl⟩ : ∃ k r, t = k :: r := by
    cases t with
    | nil => exact absurd rfl hne
    | cons k r => exact ⟨k, r, rfl⟩
  have T1 := tk_ok (l := k :: r) (k := 1) (by simp)
  rw [T1.1, T1.2.1, T1.2.2] at e1
  obtain ⟨eK0, et1, es1⟩ := e1
  have et1 : r = t1 := et1
  subst et1 es1
  have eK : k.toNat = K := by rw [← eK0]; simp [numL]
  clear eK0
  have hC : C ≤ 255 := by
    rw [← e2.1]
    have := tkOut_num r false 1
    omega
  have hacc : acc.length ≤ 255 := by have := hi.1; omega
  have hs : sumN (M ++ [((K : Int), acc)]) ≤ 255 * (M ++ [((K : Int), acc)]).length := by
    rw [sumN_app, List.length_append]; simp [sumN]; omega
  have hl2 : t2.length ≤ r.length := by rw [← e2.2.1]; exact tkLeft_len _ _ _
  have hlen : t3.length ≤ l0.length := by have := hi.2.1; simp at h2; omega
  refine ⟨by simp; omega, hlen, hs, fun h0 => ?_, fun h0 => ?_⟩
  · subst h0
    have hm : m = 0 := by rcases hd with h | h; cases h; exact h
    subst hm
    have hdn := hi.done
    have hs2 : s2 = false := (hi.2.2.1 rfl).1
    subst hs2
    cases r with
    | nil => exact absurd e2.2.2 (by decide)
    | cons c r2 =>
      have T2 := tk_ok (l := c :: r2) (k := 1) (by simp)
      rw [T2.1, T2.2.1] at e2
      have eC : c.toNat = C := by rw [← e2.1]; simp [numL]
      have et2 : r2 = t2 := e2.2.1
      subst et2 eC eK
      have ho : oneO sz (k :: c :: r2) = some (((k.toNat : Int), acc), t3) := by rw [oneO, hdn]; rfl
      rw [h4, segsO, ho]
      simp only [Option.map_map]
      congr 1
      funext p
      simp
  · subst h0
    have hO : oneO sz (k :: r) = none := by
      cases r with
      | nil => rfl
      | cons c r2 =>
        have T2 := tk_ok (l := c :: r2) (k := 1) (by simp)
        rw [T2.1, T2.2.1, T2.2.2] at e2
        have eC : c.toNat = C := by rw [← e2.1]; simp [numL]
        have et2 : r2 = t2 := e2.2.1
        subst et2 eC
        rcases hi.2.2.2 rfl with h | h
        · rw [← e2.2.2] at h; cases h
        · rw [oneO, h]; rfl
    rw [h4, segsO, hO]
    rfl
theorem InvO.bad {wide : Bool} {l0 t : List UInt8} {M : List Seg} {f : Nat} (h : InvO (szA wide) l0 M f t true) : readA wide l0 = none := by
  unfold readA
  rw [h.2.2.2.2 rfl]
theorem segsO_nil (sz f : Nat) : segsO sz f [] = some [] := by cases f <;> rfl
theorem InvO.good {wide : Bool} {l0 t : List UInt8} {M : List Seg} {f : Nat} (h : InvO (szA wide) l0 M f t false) (hd : t = [] ∨ f = 0) : readA wide l0 = if rightA M = true then some M else none := by
  have e : segsO (szA wide) f t = some [] := by
    rcases hd with rfl | rfl
    · exact segsO_nil _ _
    · rfl
  unfold readA
  rw [h.2.2.2.1 rfl, e]
  simp
theorem InvO.none_ {wide : Bool} {l0 t : List UInt8} {M : List Seg} {s : Bool} {f : Nat} (h : InvO (szA wide) l0 M f t s) (hd : s = true ∨ t = [] ∨ f = 0) (hr : rightA M = false) : readA wide l0 = none := by
  cases s
  · rw [h.good (by rcases hd with h | h; cases h; exact h), hr]; rfl
  · exact h.bad
end Go.Proofs.YtlpkngjeihoknaaDoor
