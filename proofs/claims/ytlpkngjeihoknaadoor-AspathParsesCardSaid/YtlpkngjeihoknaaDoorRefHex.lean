/- The walks of the document's Hex and Unhex. No conditions but sizes. -/
import Derived.Test.YtlpkngjeihoknaaDoorProg
import Derived.WalkKit
import Derived.WalkSpells
import Derived.WalkLawsBesides
import Derived.Outline
import Derived.Deep.QuietTactic
import Derived.BigQuiet
import Derived.Handy
import Derived.Lib.Hide
import Derived.Deep.RegionHeld3
import Derived.Lib.Strings
import Derived.Test.YtlpkngjeihoknaaDoorUnhex
namespace Go.Proofs.YtlpkngjeihoknaaDoor
open Go.RowKit
def digS : ByteArray := ⟨#[48, 49, 50, 51, 52, 53, 54, 55, 56, 57, 97, 98, 99, 100, 101, 102]⟩
theorem digS_one (h : Nat) (hh : h < 16) : digS.extract h (h + 1) = ⟨#[dg h]⟩ := by
  have : ∀ h : Fin 16, digS.extract h.val (h.val + 1) = ⟨#[dg h.val]⟩ := by decide
  exact this ⟨h, hh⟩
theorem bs_append (a b : List UInt8) : (⟨a.toArray⟩ : ByteArray) ++ ⟨b.toArray⟩ = ⟨(a ++ b).toArray⟩ := by
  apply ByteArray.ext
  rw [ByteArray.data_append]
  simp
theorem keepO {w W W' : World} {T n c : Nat} {A : Option Addr} {L : List UInt8} (hb : Below W.heap.size W W') (h : Below w.heap.size w W ∧ OB W T w.heap.size A n c L) : Below w.heap.size w W' ∧ OB W' T w.heap.size A n c L :=
  ⟨h.1.trans (hb.mono h.1.size), h.2.below hb⟩
theorem keepO1 {w W : World} {T n c : Nat} {A : Option Addr} {L : List UInt8} (b : Below w.heap.size w W) (o : OB W T w.heap.size A n c L) : Below w.heap.size w W.drew ∧ OB W.drew T w.heap.size A n c L := ⟨b.drew, o.drew⟩
theorem keepO2 {w W : World} {T n c : Nat} {A : Option Addr} {L : List UInt8} {O : Obj} (b : Below w.heap.size w W) (o : OB W T w.heap.size A n c L) : Below w.heap.size w (W.alloc O).drew ∧ OB (W.alloc O).drew T w.heap.size A n c L := ⟨(b.alloc b.size _).drew, (o.alloc _).drew⟩
theorem one_drew (w : World) (T : Nat) (e : Int) (h0 : 0 ≤ e) (h1 : e ≤ 255) : BS (w.alloc (.cells #[.int .u8 e] T)).drew (w.alloc (.cells #[.int .u8 e] T)).drew.heap.size (some ⟨w.heap.size, 0, none⟩) 1 [ub e] := ((BS.one w T e h0 h1).more (by simp)).drew
theorem pairE (s S : ByteArray) (l : List UInt8) (k j m : Nat) (hL : s.data.toList = l) (hj : j = 2 * k) (h1 : j + 1 < s.size) (hm : m < 256) (hS : S = ⟨(hexL [ub (m : Int)]).toArray⟩) :
    (S.toList == (s.extract j (j + 2)).toList) = true ↔ (pairOK l k = true ∧ pairB l k = ub (m : Int)) := by
  have hlen : l.length = s.size := by rw [← hL]; rfl
  have hu : (ub (m : Int)).toNat = m := by have := ub_toNat (e := (m : Int)) (by omega) (by omega); omega
  rw [← pair_hit l k m hm (by omega), beq_iff_eq, Lib.extract_toList, hL, hS, ByteArray.toList_mk]
  have e1 : hexL [ub (m : Int)] = [dg (m / 16), dg (m % 16)] := by simp [hexL, hu]
  have e2 : (l.drop j).take (j + 2 - j) = [l[2 * k], l[2 * k + 1]] := by
    subst hj
    rw [show 2 * k + 2 - 2 * k = 2 by omega, List.drop_eq_getElem_cons (by omega), List.drop_eq_getElem_cons (by omega)]
    rfl
  rw [e1, e2]
end Go.Proofs.YtlpkngjeihoknaaDoor
