/- The walk of the law OctetBack. Conditions: the table of digits (DigTab). -/
import Derived.Test.YtdcldmblgbefnaaDoorProg
import Derived.WalkKit
import Derived.WalkSpells
import Derived.WalkLawsBesides
import Derived.Outline
import Derived.Deep.QuietTactic
import Derived.BigQuiet
import Derived.Handy
import Derived.Lib.Hide
import Derived.Deep.RegionHeld
import Derived.Test.YtdcldmblgbefnaaDoorReaderTwo
namespace Go.Proofs.YtdcldmblgbefnaaDoor
open Go.RowKit
theorem RD.drew {w : World} {g : Nat} {l : List UInt8} {s : Bool} (h : RD w g l s) : RD w.drew g l s := h
/-- A slice of the call's own without bytes. -/
theorem OB.empty (w : World) {T base : Nat} (hb : base ≤ w.heap.size) : OB (w.alloc (.cells #[] T)) T base (some ⟨w.heap.size, 0, none⟩) 0 0 [] :=
  ⟨rfl, rfl, .inr ⟨w.heap.size, 0, #[], rfl, hb, Blk.new w T #[], Nat.le_refl _, by unfold maxLen; omega, rfl, rfl⟩⟩
set_option maxHeartbeats 1000000 in
set_option maxRecDepth 100000 in
theorem lawOctetBack (w : World) (u : Int) (hu : (Lit.int .u16 u).wf = true) (m : Int) (hm : (Lit.int .u32 m).wf = true) (A : Option Addr) (n c : Nat) (l : List UInt8) (h : BS w w.heap.size A n l) (_ : n ≤ c) (_ : c ≤ maxLen) (ht : DigTab w) :
    Calls Tryd.prog 13 #[.int .u16 u, .int .u32 m, .slice A n c] w fun en w' => en = .returned (.bool true) ∧ Below w.heap.size w w' := by
  have hu2 : 0 ≤ u ∧ u ≤ 65535 := by simpa [Lit.wf, IntKind.min, IntKind.max, IntKind.signed, IntKind.bits] using hu
  have hm2 : 0 ≤ m ∧ m ≤ 4294967295 := by simpa [Lit.wf, IntKind.min, IntKind.max, IntKind.signed, IntKind.bits] using hm
  by_cases hn : n ≤ 2000
  · have hni : (n : Int) ≤ 2000 := by omega
    have hl2 := h.len
    have EL := Lib.hid (show (b16 u ++ b32 m).length = 6 from rfl)
    have hl3 : (b16 u ++ b32 m ++ l).length = 6 + n := by rw [List.length_append, EL.out, hl2]
    have T1 := tk_ok (l := b16 u ++ b32 m ++ l) (k := 2) (by omega)
    have T2 := tk_ok (l := b32 m ++ l) (k := 4) (by simp [b32])
    have T3 := tk_ok (l := l) (k := n) (by omega)
    have E1 : (b16 u ++ b32 m ++ l).take 2 = b16 u := rfl
    have E2 : (b16 u ++ b32 m ++ l).drop 2 = b32 m ++ l := rfl
    have E3 : (b32 m ++ l).take 4 = b32 m := rfl
    have E4 : (b32 m ++ l).drop 4 = l := rfl
    rw [E1, E2] at T1
    rw [E3, E4] at T2
    have E5 : l.take n = l := by rw [hl2, List.take_length]
    have E6 : l.drop n = [] := by rw [hl2, List.drop_length]
    rw [E5, E6] at T3
    have N1 := numL_b16 (m := u) (by omega) (by omega)
    have N2 := numL_b32 (m := m) (by omega) (by omega)
    obtain ⟨L, HL⟩ : ∃ L, b16 u ++ b32 m ++ l = L := ⟨_, rfl⟩
    rw [HL] at T1 hl3
    have HL' := Lib.hid HL
    have HT1 := Lib.hid T1
    have HT2 := Lib.hid T2
    have HT3 := Lib.hid T3
    have HN1 := Lib.hid N1
    have HN2 := Lib.hid N2
    have HL2 := Lib.hid hl2
    clear HL T1 T2 T3 N1 N2 E1 E2 E3 E4 E5 E6 hl2 hl3
    go_enter Tryd.func13, Tryd.ntmps13
    go_wp2_with fail
    refine (octetPut16 none 0 0 [] u _ BS.none_ (by simp)).mono ?_
    rw [List.nil_append]
    rintro _ w1 ⟨A1, n1, c1, rfl, o1, b1⟩
    go_wp2_with fail
    refine (octetPut32 A1 n1 c1 (b16 u) m _ o1.bs (by simp [b16]) (by omega) (by omega)).mono ?_
    rintro _ w2 ⟨A2, n2, c2, rfl, o2, b2⟩
    go_wp2_with (first | (at_builtin; refine wpl_app rfl (.tmp 18) (.tmp 19) _ rfl 5 Tryd.underlying27 u8info w2.heap.size _ 0 0 [] (by rfl) (OB.empty w2 (Nat.le_refl _)) w2.heap.size A2 n2 c2 (b16 u ++ b32 m) (by rfl) (o2.bs.alloc (Nat.le_refl _) _) (by simp [b16, b32]) (by simp) ?_; intro A3 n3 c3 w3 o3 b3 g3; have s3 := b3.size; have b13 : Below w.heap.size w w3 := (b1.trans (b2.mono b1.size)).trans ((((Below.refl _ _).alloc (Nat.le_refl _) _).trans b3).mono (Nat.le_trans b1.size b2.size))) | (at_builtin; refine wpl_app rfl (.tmp 20) (.tmp 21) _ rfl 5 Tryd.underlying27 u8info w2.heap.size A3 n3 c3 (b16 u ++ b32 m) (by rfl) o3 w3.heap.size A n c l (by rfl) (h.call b13) (by rw [EL.out, ← HL2.out]; omega) (by simp at s3; omega) ?_; intro A4 n4 c4 w4 o4 b4 g4; rw [HL'.out] at o4))
    rw [List.nil_append] at o3
    refine (readerNew A4 n4 c4 L _ o4.bs (by rw [o4.1, ← HL'.out, List.length_append, EL.out, ← HL2.out]; omega)).mono ?_
    rintro _ w5 ⟨g, rfl, hg, r5, b5⟩
    have b34 : Below w.heap.size w w4 := b13.trans (b4.mono (Nat.le_trans b1.size b2.size))
    have b45 : Below w.heap.size w w5 := b34.trans (b5.mono b34.size)
    have hgw : w.heap.size ≤ g := Nat.le_trans b34.size hg
    have HN4 := Lib.hid (show ((6 : Nat) : Int) = 6 from rfl)
    have EN := o2.1
    have hwu : IntKind.i64.wrap u = u := IntWalk.i64_in _ ⟨by omega, by omega⟩
    rw [EL.out] at EN
    go_wp2_with fail
    go_region_held (fun w' => Below w.heap.size w w') (first | (with_reducible assumption) | (with_reducible exact Below.drew (by assumption)) | (with_reducible exact btr (by assumption) (by assumption) (Below.size (by assumption)))) (first
      | (go_at_call 52; refine (readerU16 g L false _ (RD.drew r5) (by rw [← HL'.out, List.length_append, EL.out, ← HL2.out]; omega)).mono ?_; rw [HT1.out.1, HT1.out.2.1, HT1.out.2.2, HN1.out]; rintro _ w6 ⟨rfl, r6, g6⟩; have b6 := below_at (Below.drew b45) g6 b45.size hgw)
      | (go_at_call 53; refine (readerU32 g _ false _ r6 (by simp [b32, ← HL2.out]; omega)).mono ?_; rw [HT2.out.1, HT2.out.2.1, HT2.out.2.2, HN2.out]; rintro _ w7 ⟨rfl, r7, g7⟩; have b7 := below_at b6 g7 b6.size hgw; have e7 := (h.call b7).conv (P := Tryd.prog) 27 9 5 c Tryd.underlying27 Tryd.underlying5 Tryd.underlying9)
      | (go_at_call 49; refine (readerLeft g _ false _ r7).mono ?_; simp only [Bool.false_eq_true, if_false, ← HL2.out]; rintro _ _ ⟨rfl, rfl⟩)
      | (go_at_call 48; refine (readerTake g _ false _ _ r7 (by rw [← HL2.out]; omega)).mono ?_; rintro _ w8 ⟨A8, n8, c8, rfl, o8, r8, g8⟩; have b8 := below_at b7 g8 b7.size hgw; rw [HT3.out.1] at o8; rw [HT3.out.2.1, HT3.out.2.2] at r8; have e8 := (h.call b8).conv (P := Tryd.prog) 27 9 5 c Tryd.underlying27 Tryd.underlying5 Tryd.underlying9; have d8 := o8.bs.conv (P := Tryd.prog) 27 9 5 c8 Tryd.underlying27 Tryd.underlying5 Tryd.underlying9)
      | (go_at_call 50; refine (readerErr g _ false _ r8).mono ?_; rintro _ _ ⟨rfl, rfl⟩)
      | (go_at_call 31; refine (awake01 _ (ht.call b8)).mono ?_; rintro _ w9 ⟨rfl, b9⟩; have b10 := btr b8 b9 b8.size))
    all_goals
      try go_wp2_with fail
      go_ret
      exact ⟨rfl, by with_reducible assumption⟩
  · have hni : 2000 < (n : Int) := by omega
    go_enter Tryd.func13, Tryd.ntmps13
    go_wp2_with fail
    refine (awake01 _ ht).mono ?_
    rintro _ w5 ⟨rfl, b5⟩
    go_wp2_with fail
    go_ret
    exact ⟨rfl, b5⟩
end Go.Proofs.YtdcldmblgbefnaaDoor
