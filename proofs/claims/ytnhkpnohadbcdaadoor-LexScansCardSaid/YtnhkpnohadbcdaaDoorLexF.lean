/- Walks of layer 13 (lex): the example. Conditions: the tables. -/
import Derived.Test.YtnhkpnohadbcdaaDoorProg
import Derived.WalkKit
import Derived.WalkSpells
import Derived.WalkLawsBesides
import Derived.Outline
import Derived.Deep.QuietTactic
import Derived.BigQuiet
import Derived.Handy
import Derived.Lib.Hide
import Derived.Test.YtnhkpnohadbcdaaDoorLexE
namespace Go.Proofs.YtnhkpnohadbcdaaDoor
open Go.RowKit
set_option linter.unusedSimpArgs false
set_option linter.unusedVariables false
def exS : ByteArray := ⟨#[115, 104, 111, 119, 32, 49, 50, 32, 34, 97, 32, 98, 34]⟩
def exW : ByteArray := ⟨#[115, 104, 111, 119]⟩
def exN : ByteArray := ⟨#[49, 50]⟩
def exQ : ByteArray := ⟨#[97, 32, 98]⟩
theorem exRight : rightS exS = true := by decide +kernel
theorem exEnd : endSc exS = ⟨[wordOf (exS.extract 0 4), wordOf (exS.extract 5 7), .quo (runesBytes [97, 32, 98])], -1, [], false, false, true, false⟩ := by kernel_rfl
theorem exX0 : exS.extract 0 4 = exW := by kernel_rfl
theorem exX1 : exS.extract 5 7 = exN := by kernel_rfl
theorem exX2 : runesBytes [97, 32, 98] = exQ := by kernel_rfl
theorem exWord : wordOf exW = .word exW := by
  exact wordOf_word (IntAns.letter (c := 115) (by decide +kernel) (by decide +kernel))
theorem exNum : wordOf exN = .num 12 := by
  refine wordOf_num ?_
  have h := IntAns.text 12
  have e : decI 12 = exN.data.toList := by kernel_rfl
  rw [e] at h
  exact h
theorem exScanT : scanT exS = ([.word exW, .num 12, .quo exQ], 0) := by
  unfold scanT
  rw [if_neg (show ¬ 200 < exS.size by decide +kernel), if_neg (by rw [exRight]; simp), exEnd, exX0, exX1, exX2, exWord, exNum]
  simp
theorem exScan (w : World) (ht : DigTab w) (hT : UT w) : Calls Tryd.prog 74 #[.string exS] w fun e w' => ∃ (g c : Nat), e = .returned (.tuple #[.slice (some ⟨g, 0, none⟩) 3 c, .int .i64 0]) ∧ w'.cell? ⟨g, 0, none⟩ = some (.iface 107 (.string exW)) ∧ w'.cell? ⟨g, 1, none⟩ = some (.iface 108 (.int .i64 12)) ∧ w'.cell? ⟨g, 2, none⟩ = some (.iface 109 (.string exQ)) ∧ Below w.heap.size w w' :=
  (lexScan exS w ht hT (by decide +kernel)).mono fun e w' ⟨A, n, c, h1, h2, h3⟩ => by
    rw [exScanT] at h1 h2
    have hn : n = 3 := by have := h2.1; simp at this; omega
    subst hn
    have hr := (Reads.of_own h2).2 (by omega)
    obtain ⟨ad, hA, _, hc⟩ := hr
    rcases h2.2 with ⟨_, h0⟩ | ⟨g, cap, cur, hv, _⟩
    · omega
    · injection hv with hv1 hv2 hv3
      subst hv1
      injection hA with hA
      subst hA
      refine ⟨g, c, h1, ?_, ?_, ?_, h3⟩
      · have := hc 0 _ rfl
        rwa [addr_add] at this
      · have := hc 1 _ rfl
        rwa [addr_add] at this
      · have := hc 2 _ rfl
        rwa [addr_add] at this
theorem exKind3 (s : ByteArray) (w : World) : Calls Tryd.prog 69 #[.iface 109 (.string s)] w fun e w' => e = .returned (.int .i64 3) ∧ Below w.heap.size w w' := lexKind (.quo s) w
theorem exKind0 (w : World) : Calls Tryd.prog 69 #[.nilIface] w fun e w' => e = .returned (.int .i64 0) ∧ Below w.heap.size w w' := lexKind .none w
set_option maxHeartbeats 2000000 in
set_option maxRecDepth 100000 in
theorem awake13 (w : World) (ht : DigTab w) (hT : UT w) : Calls Tryd.prog 64 #[] w fun en w' => en = .returned (.bool true) ∧ Below w.heap.size w w' := by
  have HC := exScan w ht hT
  unfold exS at HC
  unfold exW at HC
  go_enter Tryd.func64, Tryd.ntmps64
  go_wp2_with fail
  refine HC.mono ?_
  rintro _ w1 ⟨g, c, rfl, k0, k1, k2, b1⟩
  have hg := lt_of_cell k0
  go_wp2_with fail
  refine (lexMustWord _ _).mono ?_
  rintro _ w2 ⟨rfl, b2⟩
  have k12 := (b2.cell (p := ⟨g, 1, none⟩) hg).trans k1
  have k22 := (b2.cell (p := ⟨g, 2, none⟩) hg).trans k2
  go_wp2_with fail
  refine (lexMustNum 12 _).mono ?_
  rintro _ w3 ⟨rfl, b3⟩
  have k33 := (b3.cell (p := ⟨g, 2, none⟩) (Nat.lt_of_lt_of_le hg b2.size)).trans k22
  go_wp2_with fail
  refine (exKind3 exQ _).mono ?_
  rintro _ w4 ⟨rfl, b4⟩
  go_wp2_with fail
  refine (exKind0 _).mono ?_
  rintro _ w5 ⟨rfl, b5⟩
  go_wp2_with fail
  go_ret
  have z1 := b1.size
  have z2 := b2.size
  have z3 := b3.size
  have z4 := b4.size
  exact ⟨rfl, (((b1.trans (b2.mono z1)).trans (b3.mono (by omega))).trans (b4.mono (by omega))).trans (b5.mono (by omega))⟩
end Go.Proofs.YtnhkpnohadbcdaaDoor
