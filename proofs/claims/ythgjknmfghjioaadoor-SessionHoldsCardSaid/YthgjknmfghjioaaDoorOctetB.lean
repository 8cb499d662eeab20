/- Walks of layer 1 (octet): digits. Conditions: the table of digits (DigTab). -/
import Derived.Test.YthgjknmfghjioaaDoorProg
import Derived.WalkKit
import Derived.WalkSpells
import Derived.WalkLawsBesides
import Derived.Outline
import Derived.Deep.QuietTactic
import Derived.BigQuiet
import Derived.Handy
import Derived.Lib.Hide
import Derived.Deep.RegionHeld3
import Derived.Test.YthgjknmfghjioaaDoorOctet
import Derived.Test.YthgjknmfghjioaaDoorOctPlain
namespace Go.Proofs.YthgjknmfghjioaaDoor
open Go.RowKit
/-- The table, as a row of sixteen cells. -/
def digArr : Array Value := (digitsL.map fun b : Nat => Value.int .u8 (b : Int)).toArray
theorem digArr_size : digArr.size = 16 := rfl
theorem digArr_at (k : Nat) (h : k < 16) : digArr[k]? = some (.int .u8 ((dg k).toNat : Int)) := by
  have : ∀ k : Fin 16, digitsL[k.val]? = some ((dg k.val).toNat) := by decide
  have h1 := this ⟨k, h⟩
  simp only at h1
  simp only [digArr, List.getElem?_toArray, List.getElem?_map, h1]
  rfl
/-- What a digit stands for; 16: it is none. -/
def valI (c : Int) : Int := if 48 ≤ c ∧ c ≤ 57 then c - 48 else if 97 ≤ c ∧ c ≤ 102 then c - 87 else 16
theorem valI_hit (k : Nat) (hk : k < 16) : valI ((dg k).toNat : Int) = k := by
  have : ∀ k : Fin 16, valI ((dg k.val).toNat : Int) = (k.val : Int) := by decide
  exact this ⟨k, hk⟩
theorem dg_low (k : Nat) (hk : k < 10) : (dg k).toNat = 48 + k := by
  have : ∀ k : Fin 10, (dg k.val).toNat = 48 + k.val := by decide
  exact this ⟨k, hk⟩
theorem dg_high (k : Nat) (hk : k < 6) : (dg (10 + k)).toNat = 97 + k := by
  have : ∀ k : Fin 6, (dg (10 + k.val)).toNat = 97 + k.val := by decide
  exact this ⟨k, hk⟩
theorem valI_miss (c : Int) (h : ∀ k : Nat, k < 16 → c ≠ ((dg k).toNat : Int)) : valI c = 16 := by
  unfold valI
  split
  · have h1 := h (c - 48).toNat (by omega)
    rw [dg_low _ (by omega)] at h1
    omega
  · split
    · have h1 := h (10 + (c - 97).toNat) (by omega)
      rw [dg_high _ (by omega)] at h1
      omega
    · rfl
/-- Byte k of a list, as a number. -/
def lb (l : List UInt8) (k : Nat) : Nat := (l[k]?.getD 0).toNat
theorem lb_lt (l : List UInt8) (k : Nat) : lb l k < 256 := UInt8.toNat_lt _
theorem lb_eq (l : List UInt8) (k : Nat) (h : k < l.length) : lb l k = (l[k]).toNat := by simp [lb, h]
theorem BS.form {w : World} {B n : Nat} {A : Option Addr} {l : List UInt8} (h : BS w B A n l) {k : Nat} (hk : k < n) : ∃ b off, A = some ⟨b, off, none⟩ ∧ b < B ∧ w.cell? ⟨b, off + k, none⟩ = some (.int .u8 (lb l k : Int)) := by
  have hk' : k < l.length := by rw [← h.len]; exact hk
  obtain ⟨ad, rfl, hb, hc⟩ := h.at_ hk'
  have h0 := h.at_ (k := 0) (by omega)
  obtain ⟨ad', e, _, hc0⟩ := h0
  injection e with e
  subst e
  have hs : ad.spot = none := by
    have := World.cell?_spot hc0
    simpa [Addr.add] using this
  obtain ⟨b, off, spot⟩ := ad
  simp only at hs
  subst hs
  refine ⟨b, off, rfl, hb, ?_⟩
  rw [lb_eq l k hk', ← hc]
  congr 1
  unfold Addr.add
  split <;> simp_all
theorem and15 (v : Nat) (h : v < 256) : bits .and .u8 (v : Int) 15 = ((v % 16 : Nat) : Int) := by
  have : ∀ v : Fin 256, bits .and .u8 (v.val : Int) 15 = ((v.val % 16 : Nat) : Int) := by decide +kernel
  exact this ⟨v, h⟩
/-- Bytes laid in a block of their own. -/
theorem BS.lit (w : World) (T : Nat) (bs : List UInt8) : BS (w.alloc (.cells (bv bs).toArray T)) (w.heap.size + 1) (some ⟨w.heap.size, 0, none⟩) bs.length bs := by
  refine ⟨rfl, by rw [bv_length]; omega, fun _ => ⟨_, rfl, by simp, fun j u hu => ?_⟩⟩
  have ha : (⟨w.heap.size, 0, none⟩ : Addr).add j = ⟨w.heap.size, j, none⟩ := by unfold Addr.add; split <;> simp_all
  rw [ha, (Blk.new w T (bv bs).toArray).cell]
  simpa using hu
theorem keep2 {w W W' : World} {x y : Value} {p q : Addr} (hp : p.block < w.heap.size) (hq : q.block < w.heap.size) (hb : Below w.heap.size W W') (h : Below w.heap.size w W ∧ W.cell? p = some x ∧ W.cell? q = some y) :
    Below w.heap.size w W' ∧ W'.cell? p = some x ∧ W'.cell? q = some y :=
  ⟨h.1.trans hb, (hb.cell hp).trans h.2.1, (hb.cell hq).trans h.2.2⟩
end Go.Proofs.YthgjknmfghjioaaDoor
