/- The walks of two laws of layer 8: NoticeNames, NoticeTexts. Conditions: the table of digits (DigTab). -/
import Derived.Test.YtdcldmblgbefnaaDoorProg
import Derived.WalkKit
import Derived.WalkSpells
import Derived.WalkLawsBesides
import Derived.Outline
import Derived.Deep.QuietTactic
import Derived.BigQuiet
import Derived.Handy
import Derived.Lib.Hide
import Derived.Test.YtdcldmblgbefnaaDoorNotText
import Derived.Test.YtdcldmblgbefnaaDoorFsmC
namespace Go.Proofs.YtdcldmblgbefnaaDoor
open Go.RowKit
set_option maxHeartbeats 1000000 in
set_option maxRecDepth 100000 in
theorem awake08 (w : World) (ht : DigTab w) : Calls Tryd.prog 65 #[] w fun en w' => en = .returned (.bool true) ∧ Below w.heap.size w w' := by
  have h61 : Hid ((⟨#[99, 101, 97, 115, 101, 47, 108, 105, 109, 105, 116]⟩ : ByteArray) = ⟨(ntName 6 1).toArray⟩) := Lib.hid (by decide)
  have h13 : Hid ((⟨#[104, 101, 97, 100, 101, 114, 47, 116, 121, 112, 101, 32, 48, 57]⟩ : ByteArray) = ⟨(ntText 1 3 [ub 9]).toArray⟩) := Lib.hid (by decide)
  have hE := Lib.hid (show npE 6 1 ([] : List UInt8).length = 0 by decide)
  have hO := Lib.hid (show npOut 6 1 [] = [6, 1] by decide)
  go_enter Tryd.func65, Tryd.ntmps65
  go_wp2_with fail
  refine (cease_any 1 _).mono ?_
  rintro _ w1 ⟨rfl, b1⟩
  go_wp2_with fail
  refine (noticePut 6 1 none 0 0 [] _ BS.none_ (by omega)).mono ?_
  rintro _ w2 ⟨A2, n2, c2, rfl, o2, b2⟩
  rw [hE.out]
  rw [hO.out] at o2
  have b12 := btr b1 b2 b1.size
  go_wp2_with fail
  refine (noticeName 6 1 _ _ (ht.call b12) (by omega) (by omega) h61).mono ?_
  rintro _ w3 ⟨rfl, b3⟩
  have b13 := btr b12 b3 b12.size
  have hconv := (o2.below b3).bs.conv (P := Tryd.prog) 27 9 5 c2 Tryd.underlying27 Tryd.underlying5 Tryd.underlying9
  go_wp2_with fail
  refine (noticeText 1 3 (some ⟨w3.heap.size, 0, none⟩) 1 1 [ub 9] _ _ (ht.call (b13.alloc b13.size _)) ((BS.one w3 5 9 (by omega) (by omega)).more (by simp)) (by omega) (by omega) (by omega) h13).mono ?_
  rintro _ w4 ⟨rfl, b4⟩
  have b34 : Below w3.heap.size w3 w4 := ((Below.refl w3.heap.size w3).alloc (Nat.le_refl _) (.cells #[.int .u8 9] 5)).trans (b4.mono (by simp))
  go_wp2_with fail
  go_ret
  exact ⟨rfl, btr b13 b34 b13.size⟩
theorem wf_i64 {x : Int} (h : (Lit.int .i64 x).wf = true) : -9223372036854775808 ≤ x ∧ x ≤ 9223372036854775807 := by
  simpa [Lit.wf, IntKind.min, IntKind.max, IntKind.signed, IntKind.bits] using h
set_option maxHeartbeats 1000000 in
set_option maxRecDepth 100000 in
theorem lawNoticeNames (w : World) (n : Int) (_ : (Lit.int .i64 n).wf = true) (k : Int) (hk : (Lit.int .i64 k).wf = true) (ht : DigTab w) :
    Calls Tryd.prog 17 #[.int .i64 n, .int .i64 k] w fun en w' => en = .returned (.bool true) ∧ Below w.heap.size w w' := by
  obtain ⟨h0, h1⟩ := wf_i64 hk
  obtain ⟨S, hS⟩ : ∃ S : ByteArray, S = ⟨(ntName n k).toArray⟩ := ⟨_, rfl⟩
  obtain ⟨X, hX⟩ : ∃ X, ntKnown n k = X := ⟨_, rfl⟩
  have HS := Lib.hid hS
  have HX := Lib.hid hX
  clear hS hX
  go_enter Tryd.func17, Tryd.ntmps17
  go_wp2_with fail
  refine (noticeName n k S _ ht h0 h1 HS).mono ?_
  rintro _ w1 ⟨rfl, b1⟩
  go_wp2_with fail
  refine (refName8 n k S _ h0 h1 HS).mono ?_
  rintro _ w2 ⟨rfl, b2⟩
  have b12 := btr b1 b2 b1.size
  go_wp2_with fail
  refine (noticeKnown n k _).mono ?_
  rw [HX.out]
  rintro _ w3 ⟨rfl, b3⟩
  have b13 := btr b12 b3 b12.size
  go_wp2_with fail
  refine (refKnown n k _).mono ?_
  rw [HX.out]
  rintro _ _ ⟨rfl, rfl⟩
  go_wp2_with fail
  refine (cease_any k _).mono ?_
  rintro _ w4 ⟨rfl, b4⟩
  have b14 := btr b13 b4 b13.size
  go_wp2_with fail
  refine (sameFault_any 6 k 6 k none none 0 0 0 0 [] [] _ BS.none_ BS.none_).mono ?_
  simp only [beq_self_eq_true, Bool.and_self]
  rintro _ w5 ⟨rfl, b5⟩
  have b15 := btr b14 b5 b14.size
  go_wp2_with fail
  refine (awake08 _ (ht.call b15)).mono ?_
  rintro _ w6 ⟨rfl, b6⟩
  go_wp2_with fail
  go_ret
  exact ⟨rfl, btr b15 b6 b15.size⟩
set_option maxHeartbeats 1000000 in
set_option maxRecDepth 100000 in
theorem lawNoticeTexts (w : World) (a b : Int) (A : Option Addr) (n c : Nat) (l : List UInt8) (_ : (Lit.int .i64 a).wf = true) (hb : (Lit.int .i64 b).wf = true) (h : BS w w.heap.size A n l) (_ : n ≤ c) (_ : c ≤ maxLen) (ht : DigTab w) :
    Calls Tryd.prog 16 #[.agg #[.int .i64 a, .int .i64 b, .slice A n c]] w fun en w' => en = .returned (.bool true) ∧ Below w.heap.size w w' := by
  obtain ⟨h0, h1⟩ := wf_i64 hb
  have b0 := (Below.refl w.heap.size w).alloc (Nat.le_refl _) (.cells #[.int .i64 a, .int .i64 b, .slice A n c] 29)
  by_cases hn : n ≤ 500
  · have hni : (n : Int) ≤ 500 := by omega
    have hsz : (w.alloc (.cells #[.int .i64 a, .int .i64 b, .slice A n c] 29)).heap.size = w.heap.size + 1 := by simp
    obtain ⟨S, hS⟩ : ∃ S : ByteArray, S = ⟨(ntText a b l).toArray⟩ := ⟨_, rfl⟩
    have HS := Lib.hid hS
    clear hS
    go_enter Tryd.func16, Tryd.ntmps16
    go_wp2_with fail
    go_region_held (fun w' => Below (w.heap.size + 1) (w.alloc (.cells #[.int .i64 a, .int .i64 b, .slice A n c] 29)) w' ∧ w'.cell? ⟨w.heap.size, 0, none⟩ = some (.int .i64 a) ∧ w'.cell? ⟨w.heap.size, 1, none⟩ = some (.int .i64 b) ∧ w'.cell? ⟨w.heap.size, 2, none⟩ = some (.slice A n c))
      (first | (refine keepN hsz b3 ?_; assumption) | (refine keepN hsz b2 ?_; assumption) | (refine keepN hsz b1 ?_; assumption) | ((repeat' apply And.intro) <;> first | (with_reducible exact Below.drew (Below.refl _ _)) | go_keep))
      (first
        | (go_at_call 66; refine (noticeText a b A n c l S _ (ht.call (b0.trans (Below.mono (And.left (by with_reducible assumption)) (Nat.le_succ _)))) (h.call (b0.trans (Below.mono (And.left (by with_reducible assumption)) (Nat.le_succ _)))) hn h0 h1 HS).mono ?_; rintro _ w1 ⟨rfl, b1⟩)
        | (go_at_call 67; refine (refText8 a b A n c l S _ (h.call (b0.trans (Below.mono (And.left (by with_reducible assumption)) (Nat.le_succ _)))) hn h0 h1 HS).mono ?_; rintro _ w2 ⟨rfl, b2⟩)
        | (go_at_call 65; refine (awake08 _ (ht.call (b0.trans (Below.mono (And.left (by with_reducible assumption)) (Nat.le_succ _))))).mono ?_; rintro _ w3 ⟨rfl, b3⟩))
    all_goals
      try go_wp2_with fail
      go_ret
      exact ⟨rfl, b0.trans (Below.mono (And.left (by with_reducible assumption)) (Nat.le_succ _))⟩
  · have hni : 500 < (n : Int) := by omega
    go_enter Tryd.func16, Tryd.ntmps16
    go_wp2_with fail
    refine (awake08 _ (ht.call b0)).mono ?_
    rintro _ w1 ⟨rfl, b1⟩
    go_wp2_with fail
    go_ret
    exact ⟨rfl, btr b0 b1 b0.size⟩
end Go.Proofs.YtdcldmblgbefnaaDoor
