/- The statement LexQuotes: its walk. Conditions: the tables. -/
import Derived.Test.YtnhkpnohadbcdaaDoorProg
import Derived.WalkKit
import Derived.WalkSpells
import Derived.WalkLawsBesides
import Derived.Outline
import Derived.Deep.QuietTactic
import Derived.BigQuiet
import Derived.Handy
import Derived.Lib.Hide
import Derived.RegionTactic
import Derived.Test.YtnhkpnohadbcdaaDoorLexX
import Derived.Test.YtnhkpnohadbcdaaDoorLexLawA
namespace Go.Proofs.YtnhkpnohadbcdaaDoor
open Go.RowKit
set_option linter.unusedSimpArgs false
set_option linter.unusedVariables false
theorem bytes_ext {a b : ByteArray} (h : a.data.toList = b.data.toList) : a = b := by
  obtain ⟨⟨x⟩⟩ := a
  obtain ⟨⟨y⟩⟩ := b
  simp only at h
  rw [h]
theorem quoB_len (l : List UInt8) : (quoB l).length ≤ 2 * l.length := by
  induction l with
  | nil => simp [quoB]
  | cons b l ih =>
    have e : quoB (b :: l) = (if b = 34 ∨ b = 92 then [92, b] else [b]) ++ quoB l := by simp [quoB]
    rw [e, List.length_append, List.length_cons]
    split <;> simp <;> omega
theorem refQuote_no (s : ByteArray) (w : World) (hs : s.size ≤ 10000) (hr : Hid (rightS s = false)) : Calls Tryd.prog 73 #[.string s] w fun e w' => e = .returned (.tuple #[.string ⟨#[]⟩, .bool false]) ∧ Below w.heap.size w w' :=
  (refQuote13 s w hs).mono fun e w' ⟨S, h1, h2, h3⟩ => by
    rw [hr.out] at h1
    unfold QuoIs at h2
    rw [hr.out] at h2
    rw [show S = ⟨#[]⟩ from bytes_ext h2] at h1
    exact ⟨h1, h3⟩
theorem refQuote_yes (s q : ByteArray) (w : World) (hs : s.size ≤ 10000) (hr : Hid (rightS s = true)) (hq : Hid (q.data.toList = quotePT s)) : Calls Tryd.prog 73 #[.string s] w fun e w' => e = .returned (.tuple #[.string q, .bool true]) ∧ Below w.heap.size w w' :=
  (refQuote13 s w hs).mono fun e w' ⟨S, h1, h2, h3⟩ => by
    rw [hr.out] at h1
    unfold QuoIs at h2
    rw [hr.out, if_pos rfl, ← hq.out] at h2
    rw [show S = q from bytes_ext h2] at h1
    exact ⟨h1, h3⟩
theorem scanQuo (s q : ByteArray) (w : World) (ht : DigTab w) (hT : UT w) (hr : Hid (rightS s = true)) (hq : Hid (q.data.toList = quotePT s)) (hl : q.size ≤ 200) : Calls Tryd.prog 74 #[.string q] w fun e w' => ∃ (g c : Nat), e = .returned (.tuple #[.slice (some ⟨g, 0, none⟩) 1 c, .int .i64 0]) ∧ w'.cell? ⟨g, 0, none⟩ = some (.iface 109 (.string s)) ∧ Below w.heap.size w w' :=
  (lexScan q w ht hT (by omega)).mono fun e w' ⟨A, n, c, h1, h2, h3⟩ => by
    rw [scan_quote s q hr.out hq.out hl] at h1 h2
    have hn : n = 1 := by have := h2.1; simp at this; omega
    subst hn
    have hr := (Reads.of_own h2).2 (by omega)
    obtain ⟨ad, hA, _, hc⟩ := hr
    rcases h2.2 with ⟨_, h0⟩ | ⟨g, cap, cur, hv, _⟩
    · omega
    · injection hv with hv1 hv2 hv3
      subst hv1
      injection hA with hA
      subst hA
      refine ⟨g, c, h1, ?_, h3⟩
      have := hc 0 _ rfl
      rwa [addr_add] at this
theorem scanLong (q : ByteArray) (w : World) (ht : DigTab w) (hT : UT w) (hl : 200 < q.size) (hs : q.size ≤ 100000) : Calls Tryd.prog 74 #[.string q] w fun e w' => e = .returned (.tuple #[.slice none 0 0, .int .i64 4]) ∧ Below w.heap.size w w' := by
  have t1 : decide ((200 : Int) < (q.size : Int)) = true := decide_eq_true (by omega)
  go_enter Tryd.func74, Tryd.ntmps74
  go_wp2_with fail
  go_ret2
  exact ⟨rfl, Below.refl _ _⟩
set_option maxHeartbeats 4000000 in
set_option maxRecDepth 100000 in
theorem lawLexQuotes (w : World) (s : ByteArray) (ws : s.size ≤ maxLen) (ht : DigTab w) (hT : UT w) :
    Calls Tryd.prog 14 #[.string s] w fun en w' => en = .returned (.bool true) ∧ Below w.heap.size w w' := by
  clear ws
  by_cases h2 : 500 < s.size
  · have t2 : decide ((500 : Int) < (s.size : Int)) = true := decide_eq_true (by omega)
    go_enter Tryd.func14, Tryd.ntmps14
    go_wp2_with fail
    refine (awake13 _ ht hT).mono ?_
    rintro _ w1 ⟨rfl, b1⟩
    have b01 := b1
    go_wp2_with fail
    go_ret
    exact ⟨rfl, b01⟩
  have t2 : decide ((500 : Int) < (s.size : Int)) = false := decide_eq_false (by omega)
  obtain ⟨rb, hrb⟩ : ∃ rb, rightS s = rb := ⟨_, rfl⟩
  have HRB := Lib.hid hrb
  have HQ := lexQuote s w hT (by omega)
  have hs5 : s.size ≤ 10000 := by omega
  clear hrb
  cases rb
  · have e : quoteT s = (⟨#[]⟩, false) := by unfold quoteT; rw [HRB.out]; rfl
    rw [e] at HQ
    clear e
    go_enter Tryd.func14, Tryd.ntmps14
    go_wp2_with fail
    refine HQ.mono ?_
    rintro _ w1 ⟨rfl, b1⟩
    go_wp2_with fail
    refine (refQuote_no s _ hs5 HRB).mono ?_
    rintro _ w2 ⟨rfl, b2⟩
    have b02 := btr b1 b2 b1.size
    go_wp2_with fail
    refine (awake13 _ (ht.call b02) (hT.call b02)).mono ?_
    rintro _ w3 ⟨rfl, b3⟩
    go_wp2_with fail
    go_ret
    exact ⟨rfl, btr b02 b3 b02.size⟩
  have hj := quote_join s HRB.out
  have e2 : (quoteT s).2 = true := by unfold quoteT; rw [HRB.out]; rfl
  obtain ⟨q, hq⟩ : ∃ q, (quoteT s).1 = q := ⟨_, rfl⟩
  rw [e2, hq] at HQ
  rw [hq] at hj
  have HJ := Lib.hid hj
  have hql : q.size ≤ 2000 := by
    have h1 : q.size = q.data.toList.length := rfl
    rw [h1, hj]
    have h2 := quoB_len s.data.toList
    have h3 : s.data.toList.length = s.size := rfl
    have h4 : (quotePT s).length = (quoB s.data.toList).length + 2 := by unfold quotePT; simp
    omega
  clear e2 hq hj
  have teq : (q.toList != q.toList) = false := by simp
  by_cases hl : 200 < q.size
  · have t3 : decide ((200 : Int) < (q.size : Int)) = true := decide_eq_true (by omega)
    go_enter Tryd.func14, Tryd.ntmps14
    go_wp2_with fail
    refine HQ.mono ?_
    rintro _ w1 ⟨rfl, b1⟩
    go_wp2_with fail
    refine (refQuote_yes s q _ hs5 HRB HJ).mono ?_
    rintro _ w2 ⟨rfl, b2⟩
    have b02 := btr b1 b2 b1.size
    go_wp2_with fail
    refine (scanLong q _ (ht.call b02) (hT.call b02) hl (by omega)).mono ?_
    rintro _ w3 ⟨rfl, b3⟩
    have b03 := btr b02 b3 b02.size
    go_wp2_with fail
    refine (awake13 _ (ht.call b03) (hT.call b03)).mono ?_
    rintro _ w4 ⟨rfl, b4⟩
    go_wp2_with fail
    go_ret
    exact ⟨rfl, btr b03 b4 b03.size⟩
  · have t3 : decide ((200 : Int) < (q.size : Int)) = false := decide_eq_false (by omega)
    have tss : (s.toList == s.toList) = true := by simp
    go_enter Tryd.func14, Tryd.ntmps14
    go_wp2_with fail
    refine HQ.mono ?_
    rintro _ w1 ⟨rfl, b1⟩
    go_wp2_with fail
    refine (refQuote_yes s q _ hs5 HRB HJ).mono ?_
    rintro _ w2 ⟨rfl, b2⟩
    have b02 := btr b1 b2 b1.size
    go_wp2_with fail
    refine (scanQuo s q _ (ht.call b02) (hT.call b02) HRB HJ (by omega)).mono ?_
    rintro _ w3 ⟨g, c, rfl, k0, b3⟩
    have b03 := btr b02 b3 b02.size
    go_wp2_with fail
    refine (asQ (.quo s) _ s true rfl rfl rfl _).mono ?_
    rintro _ w4 ⟨rfl, b4⟩
    have b04 := btr b03 b4 b03.size
    go_wp2_with fail
    refine (awake13 _ (ht.call b04) (hT.call b04)).mono ?_
    rintro _ w5 ⟨rfl, b5⟩
    go_wp2_with fail
    go_ret
    exact ⟨rfl, btr b04 b5 b04.size⟩
end Go.Proofs.YtnhkpnohadbcdaaDoor
