/- Numbers that read. No conditions. -/
import Derived.Test.YthgjknmfghjioaaDoorBase
import Derived.Test.YthgjknmfghjioaaDoorOpen
namespace Go.Proofs.YthgjknmfghjioaaDoor
open Go.RowKit
theorem NS.form {k : IntKind} {w : World} {B n : Nat} {A : Option Addr} {l : List Int} (h : NS k w B A n l) {j : Nat} (hj : j < n) : ∃ b off, A = some ⟨b, off, none⟩ ∧ b < B ∧ w.cell? ⟨b, off + j, none⟩ = some (.int k (l[j]?.getD 0)) := by
  obtain ⟨hn, hr, _⟩ := h
  obtain ⟨ad, u, rfl, hb, hu, hc⟩ := hr.at_ hj
  obtain ⟨ad', u0, e, _, hu0, hc0⟩ := hr.at_ (k := 0) (by omega)
  injection e with e
  subst e
  have hs : ad.spot = none := by
    have := World.cell?_spot hc0
    simpa [Addr.add] using this
  obtain ⟨b, off, spot⟩ := ad
  simp only at hs
  subst hs
  refine ⟨b, off, rfl, hb, ?_⟩
  have hj' : j < l.length := by omega
  have e2 : u = .int k (l[j]?.getD 0) := by
    rw [List.getElem?_map, List.getElem?_eq_getElem hj'] at hu
    rw [List.getElem?_eq_getElem hj']
    simpa using hu.symm
  rw [← e2, ← hc]
  congr 1
  unfold Addr.add
  split <;> simp_all
theorem NS.below {k : IntKind} {w w' : World} {B n : Nat} {A : Option Addr} {l : List Int} (h : NS k w B A n l) (hb : Below B w w') : NS k w' B A n l := ⟨h.1, Reads.below h.2.1 hb, h.2.2⟩
theorem NS.more {k : IntKind} {w : World} {B B' n : Nat} {A : Option Addr} {l : List Int} (h : NS k w B A n l) (hB : B ≤ B') : NS k w B' A n l := ⟨h.1, Reads.more h.2.1 hB, h.2.2⟩
theorem NS.wf {k : IntKind} {w : World} {B n : Nat} {A : Option Addr} {l : List Int} (h : NS k w B A n l) (j : Nat) : (Lit.int k (l[j]?.getD 0)).wf = true := by
  rcases Nat.lt_or_ge j l.length with hj | hj
  · rw [List.getElem?_eq_getElem hj]
    exact h.2.2 _ (List.getElem_mem hj)
  · rw [List.getElem?_eq_none hj]
    cases k <;> decide
theorem take_succ_eq {α : Type} {l l' : List α} {j : Nat} {d : α} (h : l.take j = l'.take j) (hj : j < l.length) (hj' : j < l'.length) (he : l[j]?.getD d = l'[j]?.getD d) : l.take (j + 1) = l'.take (j + 1) := by
  rw [List.getElem?_eq_getElem hj, List.getElem?_eq_getElem hj'] at he
  simp only [Option.getD_some] at he
  rw [List.take_succ_eq_append_getElem hj, List.take_succ_eq_append_getElem hj', h, he]
end Go.Proofs.YthgjknmfghjioaaDoor
