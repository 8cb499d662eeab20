/- Walks of layer 4 (attributes): a fault; bytes once more; whether a kind is in a list; where one of a kind belongs. No conditions but sizes. -/
import Derived.Test.YtlpkngjeihoknaaDoorProg
import Derived.WalkKit
import Derived.WalkSpells
import Derived.WalkLawsBesides
import Derived.Outline
import Derived.Deep.QuietTactic
import Derived.BigQuiet
import Derived.Handy
import Derived.Lib.Hide
import Derived.Test.YtlpkngjeihoknaaDoorAttK
import Derived.Test.YtlpkngjeihoknaaDoorInts
namespace Go.Proofs.YtlpkngjeihoknaaDoor
open Go.RowKit
set_option linter.unusedSimpArgs false
set_option linter.unusedVariables false
theorem fltA_info : (Tryd.prog.info? 69).map (·.size) = some 3 := by kernel_rfl
theorem fltA_ret {fn : Func} {p : Tmp} (h : fn.results = #[.cell p 69]) (tmps : Array Value) (w : World) (g : Nat) (x y z : Value)
    (hp : tmps.getD p undef = .pointer (some ⟨g, 0, none⟩)) (hB : Blk w g 69 #[x, y, z]) :
    (results fn tmps).run Tryd.prog w = .ok (.agg #[x, y, z]) w :=
  results_cell_row h tmps w g 69 #[x, y, z] (0, 0) _ hp hB Tryd.underlying69 rfl fltA_info
set_option maxHeartbeats 1000000 in
set_option maxRecDepth 100000 in
theorem attFault (s : Int) (A : Option Addr) (n c : Nat) (w : World) :
    Calls Tryd.prog 102 #[.int .i64 s, .slice A n c] w fun en w' => en = .returned (.agg #[.int .i64 3, .int .i64 s, .slice A n c]) ∧ Below w.heap.size w w' := by
  have hB := Blk.new w 69 #[.int .i64 0, .int .i64 0, .slice none 0 0]
  have c0 := hB.cell 0
  have c1 := hB.cell 1
  have c2 := hB.cell 2
  have f0 := hB.frozen 0
  have f1 := hB.frozen 1
  have f2 := hB.frozen 2
  go_enter Tryd.func102, Tryd.ntmps102
  go_wp2_with fail
  exact bodyPost_ret (fltA_ret rfl _ _ w.heap.size _ _ _ rfl (Blk.new w 69 #[.int .i64 3, .int .i64 s, .slice A n c])) rfl ⟨rfl, (Below.refl _ _).alloc (Nat.le_refl _) _⟩
theorem nilB_eq (c : Nat) (W : World) : (binOp .eql 40 (.slice none 0 c) (.slice none 0 0)).run Tryd.prog W = .ok (.bool true) W := by kernel_rfl
theorem nilB_ne (A : Addr) (n c : Nat) (W : World) : (binOp .eql 40 (.slice (some A) n c) (.slice none 0 0)).run Tryd.prog W = .ok (.bool false) W := by kernel_rfl
theorem OB.empty (w : World) {T base : Nat} (hb : base ≤ w.heap.size) : OB (w.alloc (.cells #[] T)) T base (some ⟨w.heap.size, 0, none⟩) 0 0 [] :=
  ⟨rfl, ⟨rfl, .inr ⟨w.heap.size, 0, #[], rfl, hb, Blk.new w T #[], Nat.le_refl _, by unfold maxLen; omega, rfl, rfl⟩⟩⟩
/-- Bytes once more, of the call's own. -/
def RetCB (w : World) (l : List UInt8) (e : Ending) (w' : World) : Prop := ∃ (A : Option Addr) (n c : Nat), e = .returned (.slice A n c) ∧ OB w' 5 w.heap.size A n c l ∧ Below w.heap.size w w'
set_option maxHeartbeats 1000000 in
set_option maxRecDepth 100000 in
theorem cloneB (A : Option Addr) (n c : Nat) (l : List UInt8) (w : World) (h : BS w w.heap.size A n l) (hn : n ≤ 140737488355320) :
    Calls Tryd.prog 99 #[.slice A n c] w (RetCB w l) := by
  rcases A with _ | A
  · have hl : l = [] := by
      rcases Nat.eq_zero_or_pos n with h0 | h0
      · exact List.eq_nil_of_length_eq_zero (h.len.symm.trans h0)
      · obtain ⟨b, off, e, _⟩ := h.form h0
        cases e
    subst hl
    have hb : BS w w.heap.size none n ([] : List UInt8) := h
    have hn0 : n = 0 := h.len
    subst hn0
    have e := nilB_eq c
    go_enter Tryd.func99, Tryd.ntmps99
    go_wp2_with fail
    go_ret
    exact ⟨none, 0, 0, rfl, OB.nil_, Below.refl _ _⟩
  · have HLN := Lib.hid h.len
    have e := nilB_ne A n c
    go_enter Tryd.func99, Tryd.ntmps99
    go_wp2_with (at_builtin; refine wpl_app rfl (.tmp 5) (.tmp 6) _ rfl 5 Tryd.underlying40 u8info w.heap.size _ 0 0 [] (by rfl) (OB.empty w (Nat.le_refl _)) w.heap.size (some A) n c l (by rfl) (h.alloc (Nat.le_refl _) _) (by rw [← HLN.out]; simp; omega) (by simp) ?_; intro A2 n2 c2 w2 o2 b2 g2)
    all_goals go_ret
    all_goals exact ⟨A2, n2, c2, rfl, o2, ((Below.refl _ _).alloc (Nat.le_refl _) _).trans b2⟩
theorem RdI.form {w : World} {B n : Nat} {A : Option Addr} {l : List Int} (h : Reads w B 1 A n (iv l)) {j : Nat} (hj : j < n) : ∃ b off, A = some ⟨b, off, none⟩ ∧ b < B ∧ w.cell? ⟨b, off + j, none⟩ = some (.int .i64 (l[j]?.getD 0)) := Reads.formI h hj
set_option maxHeartbeats 1000000 in
set_option maxRecDepth 100000 in
theorem idxI (A : Option Addr) (n c : Nat) (l : List Int) (x : Int) (w : World) (B : Nat) (h : Reads w B 1 A n (iv l)) (hl : n = l.length) (hbd : n ≤ 35184372088832) :
    Calls Tryd.prog 124 #[.slice A n c, .int .i64 x] w fun en w' => (∃ v : Int, en = .returned (.int .i64 v) ∧ decide (0 ≤ v) = hasN l x) ∧ w = w' := by
  have HN := Lib.hid hl
  clear hl
  go_enter Tryd.func124, Tryd.ntmps124
  go_wp2_with fail
  go_loop [8] (fun i => ∃ j : Nat, j ≤ n ∧ i = .int .i64 j ∧ Hid (∀ i, i < j → l[i]?.getD 0 ≠ x)) (fun i => n - (intOf i).toNat)
  case atStart => exact ⟨0, by omega, rfl, Lib.hid fun i h => by omega⟩
  case round =>
    obtain ⟨j, hj, rfl, hno⟩ := hrel
    by_cases hlt : j < n
    · obtain ⟨b, off, rfl, hbw, hcw⟩ := RdI.form h hlt
      have hd : decide ((j : Int) < n) = true := decide_eq_true (by omega)
      obtain ⟨y, hy⟩ : ∃ y, l[j]?.getD 0 = y := ⟨_, rfl⟩
      rw [hy] at hcw
      have HY := Lib.hid hy
      clear hy
      by_cases e : x = y
      · subst e
        have HG := Lib.hid (hasN_at (by rw [← HN.out]; exact hlt) HY.out)
        go_wp2_with fail
        go_ret
        exact ⟨⟨j, rfl, by rw [HG.out]; exact decide_eq_true (by omega)⟩, rfl⟩
      · have ht2 : (x == y) = false := by simpa using e
        have HS := Lib.hid (step_no hno.out (by rw [HY.out]; exact fun e' => e e'.symm))
        go_wp2_with fail
        go_round
        case rel => exact ⟨j + 1, by omega, by go_num, HS⟩
        case measure => simp [intOf]; omega
    · have hd : decide ((j : Int) < n) = false := decide_eq_false (by omega)
      have HG := Lib.hid (hasN_no (l := l) (c := x) (fun i hi => hno.out i (by have := HN.out; omega)))
      go_wp2_with fail
      go_ret
      exact ⟨⟨-1, rfl, by rw [HG.out]; decide⟩, rfl⟩
set_option maxHeartbeats 1000000 in
set_option maxRecDepth 100000 in
theorem containsI (A : Option Addr) (n c : Nat) (l : List Int) (x : Int) (w : World) (B : Nat) (h : Reads w B 1 A n (iv l)) (hl : n = l.length) (hbd : n ≤ 35184372088832) :
    Calls Tryd.prog 101 #[.slice A n c, .int .i64 x] w fun en w' => en = .returned (.bool (hasN l x)) ∧ w = w' := by
  have HC := idxI A n c l x w B h hl hbd
  obtain ⟨r, hr⟩ : ∃ r, hasN l x = r := ⟨_, rfl⟩
  rw [hr] at HC ⊢
  clear hr hl
  go_enter Tryd.func101, Tryd.ntmps101
  go_wp2_with fail
  refine HC.mono ?_
  rintro _ _ ⟨⟨v, rfl, hv⟩, rfl⟩
  cases r
  all_goals
    go_wp2_with fail
    go_ret
    exact ⟨ret_b (by first | exact hv | rfl), rfl⟩
set_option maxHeartbeats 1000000 in
set_option maxRecDepth 100000 in
theorem unkOne (f t k : Int) (A : Option Addr) (n c gx : Nat) (w : World) (hk : w.cell? ⟨gx, 1, none⟩ = some (.int .i64 k)) (hx : gx < w.heap.size) :
    Calls Tryd.prog 126 #[.agg #[.int .i64 f, .int .i64 t, .slice A n c], .pointer (some ⟨gx, 0, none⟩)] w fun en w' => en = .returned (.bool (decide (k < t))) ∧ Below w.heap.size w w' := by
  obtain ⟨W, hW, hX, bW⟩ := box1c w #[.int .i64 f, .int .i64 t, .slice A n c] 100
  have e1 := hX.cell 1
  have k1 := (bW.cell (p := ⟨gx, 1, none⟩) hx).trans hk
  have HW := Lib.hid hW
  clear hW hk
  obtain ⟨r, hr⟩ : ∃ r, decide (k < t) = r := ⟨_, rfl⟩
  have HR := Lib.hid hr
  clear hr
  go_enter Tryd.func126, Tryd.ntmps126
  go_upto_region 1 with fail
  rw [HW.out]
  go_wp2_with fail
  go_ret
  exact ⟨ret_b (by first | rfl | exact HR.out | exact HR.out.symm), bW⟩
/-- Where a row's place is said. -/
theorem rawPos_at {l : List RawV} {k : Int} {j : Nat} {x : RawV} (hj : l[j]? = some x) (hx : k < x.2.1) (hb : ∀ i y, i < j → l[i]? = some y → y.2.1 ≤ k) : rawPos l k = j := by
  have hlj : j < l.length := (List.getElem?_eq_some_iff.1 hj).1
  have e : l[j] = x := (List.getElem?_eq_some_iff.1 hj).2
  unfold rawPos
  rw [List.findIdx_eq hlj]
  refine ⟨by rw [e]; exact decide_eq_true hx, fun i hi => ?_⟩
  have := hb i l[i] hi (List.getElem?_eq_getElem (by omega))
  simpa using this
theorem rawPos_no {l : List RawV} {k : Int} (hb : ∀ (i : Nat) (y : RawV), l[i]? = some y → y.2.1 ≤ k) : rawPos l k = l.length := by
  unfold rawPos
  refine List.findIdx_eq_length.2 fun x hx => ?_
  obtain ⟨i, hi⟩ := List.getElem?_of_mem hx
  have := hb i x hi
  simpa using this
theorem rawPos_le (l : List RawV) (k : Int) : rawPos l k ≤ l.length := List.findIdx_le_length
set_option maxHeartbeats 4000000 in
set_option maxRecDepth 100000 in
theorem idxRaw (A : Option Addr) (n c gx : Nat) (l : List RawV) (k : Int) (w : World) (hd : DL rRaw 3 w (Lo w) A n l) (hn : n ≤ 100000) (hx : gx < w.heap.size) (hk : w.cell? ⟨gx, 1, none⟩ = some (.int .i64 k)) :
    Calls Tryd.prog 125 #[.slice A n c, .func (.func 126) #[] #[.pointer (some ⟨gx, 0, none⟩)]] w fun e w' => (∃ v : Int, e = .returned (.int .i64 v) ∧ ((0 ≤ v ∧ v = (rawPos l k : Int) ∧ rawPos l k < l.length) ∨ (v = -1 ∧ rawPos l k = l.length))) ∧ Below w.heap.size w w' := by
  have HN := Lib.hid hd.len
  go_enter Tryd.func125, Tryd.ntmps125
  go_wp2_with fail
  go_loopw [8] (fun i wr => ∃ j : Nat, j ≤ n ∧ i = .int .i64 j ∧ Hid (∀ i y, i < j → l[i]? = some y → y.2.1 ≤ k) ∧ Below w.heap.size w wr) (fun i _ => n - (intOf i).toNat)
  case atStart => exact ⟨0, by omega, rfl, Lib.hid fun i y h => by omega, Below.refl _ _⟩
  case round =>
    obtain ⟨j, hj, rfl, HA, hb⟩ := hrel
    by_cases hlt : j < n
    case neg =>
      have e2 : decide ((j : Int) < n) = false := decide_eq_false (by omega)
      have HF := Lib.hid (show rawPos l k = l.length from rawPos_no fun i y hy => HA.out i y (by have := (List.getElem?_eq_some_iff.1 hy).1; have := HN.out; omega) hy)
      go_wp2_with fail
      go_ret
      exact ⟨⟨-1, rfl, .inr ⟨rfl, HF.out⟩⟩, hb⟩
    have e2 : decide ((j : Int) < n) = true := decide_eq_true (by omega)
    have hlti : (j : Int) < n := by omega
    obtain ⟨x, hxj⟩ := getL HN.out hlt
    have HX := Lib.hid hxj
    obtain ⟨b, off, A1, n1, c1, rfl, hbl, k0w, k1w, k2w, hnf, hnc', _, _⟩ := hd.rawAt hxj
    have hbl : b < w.heap.size := hbl
    clear hxj hnf
    have wj : IntKind.i64.wrap ((j : Int) + 1) = (j : Int) + 1 := IntWalk.i64_in _ ⟨by omega, by omega⟩
    have k0 := (hb.cell (p := ⟨b, off + j * 3, none⟩) hbl).trans k0w
    have k1 := (hb.cell (p := ⟨b, off + j * 3 + 1, none⟩) hbl).trans k1w
    have k2 := (hb.cell (p := ⟨b, off + j * 3 + 2, none⟩) hbl).trans k2w
    have kx := (hb.cell (p := ⟨gx, 1, none⟩) hx).trans hk
    have hxr : gx < wr.heap.size := Nat.lt_of_lt_of_le hx hb.size
    obtain ⟨f, hf⟩ : ∃ f, x.1 = f := ⟨_, rfl⟩
    obtain ⟨t, ht⟩ : ∃ t, x.2.1 = t := ⟨_, rfl⟩
    rw [hf] at k0
    rw [ht] at k1
    have HT := Lib.hid ht
    clear hf ht k0w k1w k2w
    obtain ⟨r, hr⟩ : ∃ r, decide (k < t) = r := ⟨_, rfl⟩
    have HC := Lib.hid (show Calls Tryd.prog 126 #[.agg #[.int .i64 f, .int .i64 t, .slice A1 n1 c1], .pointer (some ⟨gx, 0, none⟩)] wr fun en w' => en = .returned (.bool r) ∧ Below wr.heap.size wr w' from by rw [← hr]; exact unkOne f t k A1 n1 c1 gx wr kx hxr)
    have HR := Lib.hid hr
    clear hr kx
    go_wp2_with fail
    refine HC.out.mono ?_
    rintro _ w2 ⟨rfl, b2⟩
    have b02 := btr hb b2 hb.size
    cases r
    · have HS := Lib.hid (show ∀ i y, i < j + 1 → l[i]? = some y → y.2.1 ≤ k from fun i y hi hy => by
        rcases Nat.lt_or_ge i j with h1 | h1
        · exact HA.out i y h1 hy
        · have : i = j := by omega
          subst this
          rw [HX.out] at hy
          injection hy with hy
          subst hy
          rw [HT.out]
          have := of_decide_eq_false HR.out
          omega)
      go_wp2_with fail
      go_roundw
      case rel => exact ⟨j + 1, by omega, by go_num, HS, b02⟩
      case measure => simp [intOf]; omega
    · have HF := Lib.hid (show rawPos l k = j from rawPos_at HX.out (by rw [HT.out]; exact of_decide_eq_true HR.out) HA.out)
      have HJ := Lib.hid (show j < l.length by have := HN.out; omega)
      go_wp2_with fail
      go_ret
      exact ⟨⟨j, rfl, .inl ⟨by omega, by rw [HF.out], by rw [HF.out]; exact HJ.out⟩⟩, b02⟩
end Go.Proofs.YtlpkngjeihoknaaDoor
