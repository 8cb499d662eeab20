/- Walks of layer 3 (paths): the example. Conditions: the table of digits. -/
import Derived.Test.YtlpkngjeihoknaaDoorProg
import Derived.WalkKit
import Derived.WalkSpells
import Derived.WalkLawsBesides
import Derived.Outline
import Derived.Deep.QuietTactic
import Derived.BigQuiet
import Derived.Handy
import Derived.Lib.Hide
import Derived.Test.YtlpkngjeihoknaaDoorAspI
import Derived.Test.YtlpkngjeihoknaaDoorAspK
namespace Go.Proofs.YtlpkngjeihoknaaDoor
open Go.RowKit
set_option linter.unusedSimpArgs false
set_option linter.unusedVariables false
def exS3 : ByteArray := ⟨#[49, 32, 50, 32, 123, 51, 44, 52, 125]⟩
def exP : List Seg := [(2, [1, 2]), (1, [3, 4])]
theorem exParse : parseR exS3 = (exP, true) := by decide +kernel
theorem exText : textS exP = exS3 := by decide +kernel
theorem exCount : countA exP = 3 := by decide +kernel
theorem exHas : hasN (flatA exP) 4 = true := by decide +kernel
theorem exPut : (putA true exP).length = 20 := by decide +kernel
theorem exSum : sumN exP ≤ big32 := by decide +kernel
theorem exParseC (w : World) (ht : DigTab w) : Calls Tryd.prog 21 #[.string exS3] w fun e w' => ∃ (A : Option Addr) (c : Nat), e = .returned (.tuple #[.slice A 2 c, .bool true]) ∧ DL rSeg 2 w' (Lo w') A 2 exP ∧ Below w.heap.size w w' :=
  (aspParse exS3 w ht (by decide +kernel)).mono fun e w' ⟨A, n, c, L, h1, h2, h3, h4⟩ => by
    rw [exParse] at h1 h3
    have hd := h2.dl
    rw [show L.map (·.1) = exP from h3] at hd
    have hn : n = 2 := hd.len
    subst hn
    exact ⟨A, c, h1, hd, h4⟩
theorem exCountC (A : Option Addr) (c : Nat) (w : World) (hd : DL rSeg 2 w (Lo w) A 2 exP) : Calls Tryd.prog 28 #[.slice A 2 c] w fun e w' => e = .returned (.int .i64 3) ∧ Below w.heap.size w w' :=
  (aspCount A 2 c exP w hd (by omega) (Lib.hid exSum)).mono fun e w' ⟨h1, h2⟩ => ⟨by rw [h1, exCount]; rfl, h2⟩
theorem exTextC (A : Option Addr) (c : Nat) (w : World) (ht : DigTab w) (hd : DL rSeg 2 w (Lo w) A 2 exP) : Calls Tryd.prog 18 #[.slice A 2 c] w fun e w' => e = .returned (.string exS3) ∧ Below w.heap.size w w' :=
  (aspText A 2 c exP w hd (by omega) ht).mono fun e w' ⟨h1, h2⟩ => ⟨by rw [h1, exText], h2⟩
theorem exHasC (A : Option Addr) (c : Nat) (w : World) (hd : DL rSeg 2 w (Lo w) A 2 exP) : Calls Tryd.prog 36 #[.slice A 2 c, .int .u32 4] w fun e w' => e = .returned (.bool true) ∧ Below w.heap.size w w' :=
  (aspHas A 2 c exP 4 w hd (by omega) (Lib.hid exSum)).mono fun e w' ⟨h1, h2⟩ => ⟨by rw [h1, exHas], h2⟩
theorem exPutC (A : Option Addr) (c : Nat) (w : World) (hd : DL rSeg 2 w (Lo w) A 2 exP) : Calls Tryd.prog 38 #[.slice A 2 c, .bool true] w fun e w' => (∃ (A' : Option Addr) (c' : Nat), e = .returned (.slice A' 20 c')) ∧ Below w.heap.size w w' :=
  (aspPut A 2 c exP true w hd (by omega) (Lib.hid exSum)).mono fun e w' ⟨A', n', c', h1, h2, h3⟩ => ⟨⟨A', c', by rw [h1, h2.1, exPut]⟩, h3⟩
set_option maxHeartbeats 2000000 in
set_option maxRecDepth 100000 in
theorem awake03 (w : World) (ht : DigTab w) : Calls Tryd.prog 17 #[] w fun en w' => en = .returned (.bool true) ∧ Below w.heap.size w w' := by
  have HC := exParseC w ht
  have HT := Lib.hid exTextC
  unfold exS3 at HC HT
  have HCC := Lib.hid HC
  clear HC
  go_enter Tryd.func17, Tryd.ntmps17
  go_wp2_with fail
  refine HCC.out.mono ?_
  rintro _ w1 ⟨A, c, rfl, hd1, b1⟩
  go_wp2_with fail
  refine (exCountC A c _ hd1).mono ?_
  rintro _ w2 ⟨rfl, b2⟩
  have b02 := btr b1 b2 b1.size
  have hd2 := hd1.keep rSeg_ok (Kp.call b2)
  go_wp2_with fail
  refine (HT.out A c _ (ht.call b02) hd2).mono ?_
  rintro _ w3 ⟨rfl, b3⟩
  have b03 := btr b02 b3 b02.size
  have hd3 := hd2.keep rSeg_ok (Kp.call b3)
  go_wp2_with fail
  refine (exHasC A c _ hd3).mono ?_
  rintro _ w4 ⟨rfl, b4⟩
  have b04 := btr b03 b4 b03.size
  have hd4 := hd3.keep rSeg_ok (Kp.call b4)
  go_wp2_with fail
  refine (exPutC A c _ hd4).mono ?_
  rintro _ w5 ⟨⟨A', c', rfl⟩, b5⟩
  have b05 := btr b04 b5 b04.size
  go_wp2_with fail
  go_ret
  exact ⟨rfl, b05⟩
end Go.Proofs.YtlpkngjeihoknaaDoor
