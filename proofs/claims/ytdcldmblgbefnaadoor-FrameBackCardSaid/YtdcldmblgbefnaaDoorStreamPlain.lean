/- The plain law of a stream's messages: what comes first of some bytes comes first of them with more behind. No conditions. -/
import Derived.Test.YtdcldmblgbefnaaDoorProg
import Derived.WalkKit
import Derived.WalkSpells
import Derived.WalkLawsBesides
import Derived.Outline
import Derived.Deep.QuietTactic
import Derived.BigQuiet
import Derived.Handy
import Derived.Lib.Hide
import Derived.Test.YtdcldmblgbefnaaDoorNext
namespace Go.Proofs.YtdcldmblgbefnaaDoor
open Go.RowKit
theorem headR_append {l : List UInt8} (b : List UInt8) (h : 19 ≤ l.length) : headR (l ++ b) = headR l := by
  rw [← headR_take (l ++ b), ← headR_take l, List.take_append_of_le_length h]
/-- A message that is whole stays the first. -/
theorem nextR_msg_append {l : List UInt8} (b : List UInt8) (h : (nextR l).2.2.1 ≠ 0) : nextR (l ++ b) = nextR l := by
  have h19 : ¬ l.length < 19 := fun hh => h (by rw [nextR, if_pos hh])
  have hc : ¬ ((headR l).2.2.1 ≠ 0 ∨ (l.length : Int) < (headR l).1) := fun hh => h (by rw [nextR, if_neg h19, if_pos hh])
  have hok := headR_ok l (Classical.byContradiction fun hh => hc (.inl hh))
  have hn : (headR l).1 ≤ l.length := by
    have : ¬ (l.length : Int) < (headR l).1 := fun hh => hc (.inr hh)
    omega
  rw [nextR, nextR, headR_append b (by omega), if_neg h19, if_neg hc, if_neg (by rw [List.length_append]; omega), if_neg (by
    rintro (hh | hh)
    · exact hc (.inl hh)
    · rw [List.length_append] at hh; omega)]
  rw [List.drop_append_of_le_length (by omega), List.take_append_of_le_length (by rw [List.length_drop]; omega)]
/-- A fault stays. -/
theorem nextR_fault_append {l : List UInt8} (b : List UInt8) (h : (nextR l).2.2.2.1 ≠ 0) : nextR (l ++ b) = nextR l := by
  have h19 : ¬ l.length < 19 := fun hh => h (by rw [nextR, if_pos hh])
  have hc : (headR l).2.2.1 ≠ 0 := by
    intro hh
    have hok := headR_ok l hh
    apply h
    rw [nextR, if_neg h19]
    split
    · exact hh
    · rfl
  rw [nextR, nextR, headR_append b (by omega), if_neg h19, if_pos (show (headR l).2.2.1 ≠ 0 ∨ (l.length : Int) < (headR l).1 from .inl hc), if_neg (show ¬ (l ++ b).length < 19 by rw [List.length_append]; omega), if_pos (show (headR l).2.2.1 ≠ 0 ∨ ((l ++ b).length : Int) < (headR l).1 from .inl hc)]
/-- All messages of bytes, with enough rounds; then the fault, and what is left. -/
def allR : Nat → List UInt8 → List (Int × List UInt8) × (Int × Int × List UInt8) × List UInt8
  | 0, l => ([], (0, 0, []), l)
  | k + 1, l =>
    if (nextR l).2.2.2.1 ≠ 0 then ([], ((nextR l).2.2.2.1, (nextR l).2.2.2.2.1, (nextR l).2.2.2.2.2), [])
    else if (nextR l).2.2.1 = 0 then ([], (0, 0, []), l)
    else
      let r := allR k (l.drop (nextR l).2.2.1.toNat)
      (((nextR l).1, (nextR l).2.1) :: r.1, r.2)
end Go.Proofs.YtdcldmblgbefnaaDoor
