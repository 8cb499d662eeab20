/- The walks of the laws PrefixParses and PrefixTexts. Conditions: the table of digits (DigTab). -/
import Derived.Test.YtnhkpnohadbcdaaDoorProg
import Derived.WalkKit
import Derived.WalkSpells
import Derived.WalkLawsBesides
import Derived.Outline
import Derived.Deep.QuietTactic
import Derived.BigQuiet
import Derived.Handy
import Derived.Lib.Hide
import Derived.Test.YtnhkpnohadbcdaaDoorPfxPut
namespace Go.Proofs.YtnhkpnohadbcdaaDoor
open Go.RowKit
set_option maxHeartbeats 1000000 in
set_option maxRecDepth 100000 in
theorem lawPrefixParses (w : World) (s : ByteArray) (_ : s.size ≤ maxLen) (ht : DigTab w) :
    Calls Tryd.prog 4 #[.string s] w fun en w' => en = .returned (.bool true) ∧ Below w.heap.size w w' := by
  by_cases hs : s.size ≤ 2000
  · have hsi : (s.size : Int) ≤ 2000 := by omega
    go_enter Tryd.func4, Tryd.ntmps4
    go_wp2_with fail
    refine (parseAddr s _ ht hs).mono ?_
    rintro _ w1 ⟨v, ok, rfl, hA, b1⟩
    have HA := Lib.hid hA
    clear hA
    go_wp2_with fail
    refine (ref02ParseAddr s _ hs).mono ?_
    rintro _ w2 ⟨v', ok', rfl, hA', b2⟩
    obtain ⟨rfl, rfl⟩ := HA.out.one hA'
    clear hA'
    have b12 := btr b1 b2 b1.size
    go_wp2_with fail
    refine (prefixParse s _ (ht.call b12) hs).mono ?_
    rintro _ w3 ⟨a, n, is, rfl, hP, b3⟩
    have HP := Lib.hid hP
    clear hP
    have b13 := btr b12 b3 b12.size
    have b14 := b13.alloc b13.size (.cells #[.int .u32 a, .int .i64 n] 24)
    have hB4 := Blk.new w3 24 #[.int .u32 a, .int .i64 n]
    go_wp2_with fail
    refine (ref02Parse s _ hs).mono ?_
    rintro _ w5 ⟨a', n', is', rfl, hP', b5⟩
    obtain ⟨rfl, rfl, rfl⟩ := PfAns.one HP.out hP'
    clear hP'
    have b15 := btr b14 b5 b14.size
    have hB5 := hB4.below b5 hB4.lt
    have b16 := b15.alloc b15.size (.cells #[.int .u32 a, .int .i64 n] 24)
    have hB6 := hB5.alloc (.cells #[.int .u32 a, .int .i64 n] 24)
    have hC6 := Blk.new w5 24 #[.int .u32 a, .int .i64 n]
    have x0 := hB6.cell 0
    have x1 := hB6.cell 1
    have y0 := hC6.cell 0
    have y1 := hC6.cell 1
    go_wp2_with fail
    refine (awake02 _ (ht.call b16)).mono ?_
    rintro _ w7 ⟨rfl, b7⟩
    go_wp2_with fail
    go_ret
    exact ⟨rfl, btr b16 b7 b16.size⟩
  · have hsi : 2000 < (s.size : Int) := by omega
    go_enter Tryd.func4, Tryd.ntmps4
    go_wp2_with fail
    refine (awake02 _ ht).mono ?_
    rintro _ w7 ⟨rfl, b7⟩
    go_wp2_with fail
    go_ret
    exact ⟨rfl, b7⟩
end Go.Proofs.YtnhkpnohadbcdaaDoor
