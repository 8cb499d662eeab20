/- The walks of laws of layer 1. Conditions: the table of digits (DigTab). -/
import Derived.Test.YtdcldmblgbefnaaDoorProg
import Derived.WalkKit
import Derived.WalkSpells
import Derived.WalkLawsBesides
import Derived.Outline
import Derived.Deep.QuietTactic
import Derived.BigQuiet
import Derived.Handy
import Derived.Lib.Hide
import Derived.Test.YtdcldmblgbefnaaDoorOctetC
import Derived.Test.YtdcldmblgbefnaaDoorRef01
namespace Go.Proofs.YtdcldmblgbefnaaDoor
open Go.RowKit
set_option maxHeartbeats 1000000 in
set_option maxRecDepth 100000 in
theorem awake01 (w : World) (ht : DigTab w) : Calls Tryd.prog 31 #[] w fun en w' => en = .returned (.bool true) ∧ Below w.heap.size w w' := by
  have hb16 := Lib.hid (show b16 258 = [1, 2] by decide)
  have hh : Hid ((⟨#[97, 98]⟩ : ByteArray) = ⟨(hexL [ub 171]).toArray⟩) := Lib.hid (by decide)
  have h7 : Hid ((⟨#[45, 55]⟩ : ByteArray) = ⟨(decI (-7)).toArray⟩) := Lib.hid (by unfold decI; rw [decU_small (by decide)]; rfl)
  go_enter Tryd.func31, Tryd.ntmps31
  go_wp2_with fail
  refine (octetPut16 none 0 0 [] 258 _ BS.none_ (by simp)).mono ?_
  rw [List.nil_append, hb16.out]
  rintro _ w1 ⟨A1, n1, c1, rfl, o1, b1⟩
  have hconv := o1.bs.conv (P := Tryd.prog) 27 9 5 c1 Tryd.underlying27 Tryd.underlying5 Tryd.underlying9
  go_wp2_with fail
  have hs1 := b1.size
  refine (hex_any (some ⟨w1.heap.size, 0, none⟩) 1 1 [ub 171] _ _ ((ht.call b1).below ((Below.refl w1.heap.size w1).alloc (Nat.le_refl _) (.cells #[.int .u8 171] 5)) (Nat.le_refl _)) ((BS.one w1 5 171 (by omega) (by omega)).more (by simp)) (by omega) hh).mono ?_
  rintro _ w2 ⟨rfl, b2⟩
  have b2' : Below w.heap.size w w2 := (b1.alloc hs1 _).trans (b2.mono (by simp; omega))
  go_wp2_with fail
  refine (octetText (-7) _ _ (ht.call b2') (by omega) (by omega) h7).mono ?_
  rintro _ w3 ⟨rfl, b3⟩
  go_wp2_with fail
  go_ret
  exact ⟨rfl, b2'.trans (b3.mono b2'.size)⟩
set_option maxHeartbeats 1000000 in
set_option maxRecDepth 100000 in
theorem lawOctetPuts (w : World) (A : Option Addr) (n c : Nat) (l : List UInt8) (h : BS w w.heap.size A n l) (_ : n ≤ c) (_ : c ≤ maxLen) (m : Int) (_ : (Lit.int .i64 m).wf = true) (u : Int) (hu : (Lit.int .u32 u).wf = true) (ht : DigTab w) :
    Calls Tryd.prog 6 #[.slice A n c, .int .i64 m, .int .u32 u] w fun en w' => en = .returned (.bool true) ∧ Below w.heap.size w w' := by
  have hu2 : 0 ≤ u ∧ u ≤ 4294967295 := by simpa [Lit.wf, IntKind.min, IntKind.max, IntKind.signed, IntKind.bits] using hu
  obtain ⟨hu0, hu1⟩ := hu2
  by_cases hn : n ≤ 2000
  · have hni : (n : Int) ≤ 2000 := by omega
    have hl : l.length ≤ 2000 := by rw [← h.len]; exact hn
    go_enter Tryd.func6, Tryd.ntmps6
    go_wp2_with fail
    refine (octetPut16 A n c l m _ h (by omega)).mono ?_
    rintro _ w1 ⟨A1, n1, c1, rfl, o1, b1⟩
    go_wp2_with fail
    refine (ref01Put16 A n c l m _ (h.call b1) (by omega)).mono ?_
    rintro _ w2 ⟨A2, n2, c2, rfl, o2, b2⟩
    go_wp2_with fail
    refine (ref01Same A1 A2 n1 n2 c1 c2 _ _ _ _ _ (o1.below b2).bs o2.bs).mono ?_
    simp only [beq_self_eq_true]
    rintro _ _ ⟨rfl, rfl⟩
    have b12 := b1.trans (b2.mono b1.size)
    go_wp2_with fail
    refine (octetPut32 A n c l u _ (h.call b12) (by omega) hu0 (by omega)).mono ?_
    rintro _ w3 ⟨A3, n3, c3, rfl, o3, b3⟩
    have b13 := b12.trans (b3.mono b12.size)
    go_wp2_with fail
    refine (ref01Put32 A n c l u _ (h.call b13) (by omega) hu0 (by omega)).mono ?_
    rintro _ w4 ⟨A4, n4, c4, rfl, o4, b4⟩
    have b14 := b13.trans (b4.mono b13.size)
    go_wp2_with fail
    refine (ref01Same A3 A4 n3 n4 c3 c4 _ _ _ _ _ (o3.below b4).bs o4.bs).mono ?_
    simp only [beq_self_eq_true]
    rintro _ _ ⟨rfl, rfl⟩
    go_wp2_with fail
    refine (awake01 _ (ht.call b14)).mono ?_
    rintro _ w5 ⟨rfl, b5⟩
    go_wp2_with fail
    go_ret
    exact ⟨rfl, b14.trans (b5.mono b14.size)⟩
  · have hni : 2000 < (n : Int) := by omega
    go_enter Tryd.func6, Tryd.ntmps6
    go_wp2_with fail
    refine (awake01 _ ht).mono ?_
    rintro _ w5 ⟨rfl, b5⟩
    go_wp2_with fail
    go_ret
    exact ⟨rfl, b5⟩
end Go.Proofs.YtdcldmblgbefnaaDoor
