/- Walks of layer 13 (lex): the words of a line, by the document. No conditions but sizes. -/
import Derived.Test.YtnhkpnohadbcdaaDoorProg
import Derived.WalkKit
import Derived.WalkSpells
import Derived.WalkLawsBesides
import Derived.Outline
import Derived.Deep.QuietTactic
import Derived.BigQuiet
import Derived.Handy
import Derived.Lib.Hide
import Derived.Deep.DeepCutAuto
import Derived.Deep.CutBlock
import Derived.Test.YtnhkpnohadbcdaaDoorRefInt
import Derived.Test.YtnhkpnohadbcdaaDoorLexU
import Derived.Test.YtnhkpnohadbcdaaDoorLexG
import Derived.Test.YtnhkpnohadbcdaaDoorLexY
namespace Go.Proofs.YtnhkpnohadbcdaaDoor
open Go.RowKit
set_option linter.unusedSimpArgs false
set_option linter.unusedVariables false
/-- Words as they are told, fresh, and an error's number. -/
def RetTok (w : World) (r : List Tk × Int) (e : Ending) (w' : World) : Prop := ∃ (A : Option Addr) (n c : Nat), e = .returned (.tuple #[.slice A n c, .int .i64 r.2]) ∧ w'.ownsRow w.heap.size 90 3 (.slice A n c) n (toksC (r.1.map tokT)) ∧ Below w.heap.size w w'
theorem RetTok.bad {w w' : World} {r : List Tk × Int} {k : Int} (h : r = ([], k)) (hb : Below w.heap.size w w') : RetTok w r (.returned (.tuple #[.slice none 0 0, .int .i64 k])) w' := by
  subst h
  exact ⟨none, 0, 0, rfl, World.ownsRow_nil _ _ _ _, hb⟩
theorem u8_iff {y : UInt8} {x : Nat} (hx : y.toNat = x) (k : Nat) (hk : k < 256) : y = UInt8.ofNat k ↔ x = k := by
  rw [← hx]
  constructor
  · intro h
    rw [h]
    have e : (UInt8.ofNat k).toNat = k % 256 := UInt8.toNat_ofNat'
    omega
  · intro h
    have e : (UInt8.ofNat k).toNat = k % 256 := UInt8.toNat_ofNat'
    exact UInt8.toNat_inj.1 (by omega)
theorem toks_snoc (l : List Tk) (t : Tk) : toksC ((l ++ [t]).map tokT) = toksC (l.map tokT) ++ tokC (tokT t) := by rw [List.map_append, List.map_singleton, toksC_snoc]
theorem app_extract {S s : ByteArray} {i : Nat} (h : i < s.size) : (S ++ s.extract i (i + 1)).data.toList = S.data.toList ++ [s.get! i] := by rw [bytes_app, one_extract s i h]
theorem quo_arr (S : ByteArray) : (⟨S.data.toList.toArray⟩ : ByteArray) = S := by obtain ⟨⟨l⟩⟩ := S; rfl
set_option maxHeartbeats 8000000 in
set_option maxRecDepth 100000 in
theorem refScan13 (s : ByteArray) (w : World) (hs : s.size ≤ 100000) : Calls Tryd.prog 75 #[.string s] w (RetTok w (scanB s)) := by
  by_cases hl : 200 < s.size
  · have t1 : decide ((200 : Int) < (s.size : Int)) = true := decide_eq_true (by omega)
    have HG := Lib.hid (scanB_long s hl)
    go_enter Tryd.func75, Tryd.ntmps75
    go_wp2_with fail
    go_ret2
    exact RetTok.bad HG.out (Below.refl _ _)
  have t1 : decide ((200 : Int) < (s.size : Int)) = false := decide_eq_false (by omega)
  obtain ⟨rb, hrb⟩ : ∃ rb, rightS s = rb := ⟨_, rfl⟩
  have HRB := Lib.hid hrb
  have HR := refRight13 s w hs
  rw [hrb] at HR
  clear hrb
  have hl200 : s.size ≤ 200 := by omega
  cases rb
  · have HG := Lib.hid (scanB_not s hl200 HRB.out)
    go_enter Tryd.func75, Tryd.ntmps75
    go_wp2_with fail
    refine HR.mono ?_
    rintro _ w1 ⟨rfl, b1⟩
    go_wp2_with fail
    go_ret2
    exact RetTok.bad HG.out b1
  have HG := Lib.hid (scanB_ans s hl200 HRB.out)
  clear hl hs HRB
  have hs0 : (s.size : Int) ≤ 200 := by omega
  go_enter Tryd.func75, Tryd.ntmps75
  go_wp2_with fail
  refine HR.mono ?_
  rintro _ w1 ⟨rfl, b1⟩
  go_wp2_with fail
  go_loopw [4, 5] (fun v4 v5 wr => ∃ (i : Nat) (out : List Tk) (A1 : Option Addr) (n1 c1 : Nat), v4 = .slice A1 n1 c1 ∧ v5 = .int .i64 (i : Int) ∧ i ≤ s.size ∧ n1 ≤ i ∧ wr.ownsRow w.heap.size 90 3 (.slice A1 n1 c1) n1 (toksC (out.map tokT)) ∧ Below w.heap.size w wr ∧ Hid (scanB s = ansB s i (bOut out))) (fun _ v5 _ => s.size - (intOf v5).toNat)
  case atStart => exact ⟨0, [], none, 0, 0, rfl, rfl, by omega, by omega, World.ownsRow_nil _ _ _ _, b1, HG⟩
  case round =>
    obtain ⟨i, out, A1, n1, c1, rfl, rfl, hi, hn1, ho, hb, HA⟩ := hrel
    by_cases hlt : i < s.size
    case neg =>
      have d0 : decide ((i : Int) < (s.size : Int)) = false := decide_eq_false (by omega)
      have HN := Lib.hid (show scanB s = (out, 0) by rw [HA.out, ans_end (by omega)])
      go_wp2_with fail
      go_ret2
      exact ⟨A1, n1, c1, by rw [HN.out] <;> rfl, by rw [HN.out]; exact ho, hb⟩
    have d0 : decide ((i : Int) < (s.size : Int)) = true := decide_eq_true (by omega)
    have hi0 : (i : Int) < (s.size : Int) := by omega
    have e0 := byte_at s i hlt
    obtain ⟨y, hy⟩ : ∃ y, s.get! i = y := ⟨_, rfl⟩
    have HY := Lib.hid hy
    rw [hy] at e0
    obtain ⟨x, hx⟩ : ∃ x, y.toNat = x := ⟨_, rfl⟩
    have HX := Lib.hid hx
    rw [hx] at e0
    have hxl : x < 256 := by rw [← hx]; exact UInt8.toNat_lt y
    have w1i : IntKind.i64.wrap ((i : Int) + 1) = (i : Int) + 1 := IntWalk.i64_in _ ⟨by omega, by omega⟩
    have p1 : (i : Int) + 1 ≤ (s.size : Int) := by omega
    have p2 : (0 : Int) ≤ (i : Int) := by omega
    clear hy hx
    by_cases g1 : x = 32
    · have t1 : ((x : Int) == 32) = true := by rw [g1]; rfl
      have HN := Lib.hid (show scanB s = ansB s (i + 1) (bOut out) by rw [HA.out, ans_space hlt (by rw [HY.out]; exact (u8_iff HX.out 32 (by omega)).2 g1)])
      clear g1
      go_wp2_with fail
      go_roundw
      case rel => exact ⟨i + 1, out, A1, n1, c1, rfl, by go_num, by omega, by omega, ho, hb, HN⟩
      case measure => simp [intOf]; omega
    have t1 : ((x : Int) == 32) = false := by simp; omega
    have n32 : s.get! i ≠ 32 := by rw [HY.out]; exact fun h => g1 ((u8_iff HX.out 32 (by omega)).1 h)
    by_cases g2 : x = 34
    case neg =>
      have t2 : ((x : Int) != 34) = true := by simp; omega
      have n34 : s.get! i ≠ 34 := by rw [HY.out]; exact fun h => g2 ((u8_iff HX.out 34 (by omega)).1 h)
      have HN3 := Lib.hid (And.intro n32 n34)
      clear g1 g2 n32 n34
      go_wp2_with fail
      go_loop [5] (fun v5 => ∃ j : Nat, v5 = .int .i64 (j : Int) ∧ i ≤ j ∧ j ≤ s.size ∧ Hid (i = j ∨ scanB s = ansB s j (bWord out i))) (fun v5 => s.size - (intOf v5).toNat)
      case atStart => exact ⟨i, rfl, by omega, by omega, Lib.hid (.inl rfl)⟩
      case round =>
        obtain ⟨j, rfl, hij, hj, HB⟩ := hrel
        clear t1 t2 e0
        have w1j : IntKind.i64.wrap ((j : Int) + 1) = (j : Int) + 1 := IntWalk.i64_in _ ⟨by omega, by omega⟩
        have q2 : (0 : Int) ≤ (j : Int) := by omega
        have q3 : (i : Int) ≤ (j : Int) := by omega
        have q4 : (j : Int) ≤ (s.size : Int) := by omega
        by_cases hjlt : j < s.size
        case neg =>
          have d1 : decide ((j : Int) < (s.size : Int)) = false := decide_eq_false (by omega)
          have HW := Lib.hid (show i < j ∧ scanB s = ansB s j (bOut (out ++ [wordOf (s.extract i j)])) from ⟨by omega, by
            rcases HB.out with h | h
            · omega
            · rw [h, ans_word_end hj (fun h => absurd h hjlt)]⟩)
          have hXs : (s.extract i j).size ≤ 2000 := by rw [ByteArray.size_extract]; omega
          have hij1 : i < j := HW.out.1
          go_wp2_with fail
          refine (refInt_any (s.extract i j) _ hXs).mono ?_
          rintro _ w2 ⟨v, ok, rfl, ha, b2⟩
          have b02 := btr hb b2 hb.size
          have o2 := own_below ho b2
          cases ok
          · have HT := Lib.hid (show tokC (tokT (wordOf (s.extract i j))) = [.int .i64 1, .string (s.extract i j), .int .i64 0] by rw [wordOf_word ha]; rfl)
            clear ha
            have oa := own_alloc o2 (.cells #[.int .i64 1, .string (s.extract i j), .int .i64 0] 90)
            have ba := b02.alloc b02.size (.cells #[.int .i64 1, .string (s.extract i j), .int .i64 0] 90)
            have zb := b02.size
            go_wp2_with (at_builtin; refine wpl_appR rfl (.tmp 73) (.tmp 79) 83 rfl 90 _ 3 32 Tryd.underlying83 tok_info rfl (by omega) w.heap.size A1 n1 c1 _ (by rfl) oa (w2.heap.size + 1) (some ⟨w2.heap.size, 0, none⟩) 1 1 [.int .i64 1, .string (s.extract i j), .int .i64 0] (by rfl) (three_reads (Blk.new w2 90 _)) (by intro u hu; simp at hu; rcases hu with rfl | rfl | rfl <;> rfl) (by unfold maxLen; omega) (by omega) (by simp; omega) ?_; intro A6 c6 w6 o6 b6 g6 _)
            go_roundw
            case rel => exact ⟨j, _, A6, n1 + 1, c6, rfl, rfl, hj, by omega, by rw [toks_snoc, HT.out]; exact o6, ba.trans b6, Lib.hid HW.out.2⟩
            case measure => simp [intOf]; omega
          · have HT := Lib.hid (show tokC (tokT (wordOf (s.extract i j))) = [.int .i64 2, .string (⟨#[]⟩ : ByteArray), .int .i64 v] by rw [wordOf_num ha]; rfl)
            clear ha
            have oa := own_alloc o2 (.cells #[.int .i64 2, .string (⟨#[]⟩ : ByteArray), .int .i64 v] 90)
            have ba := b02.alloc b02.size (.cells #[.int .i64 2, .string (⟨#[]⟩ : ByteArray), .int .i64 v] 90)
            have zb := b02.size
            go_wp2_with (at_builtin; refine wpl_appR rfl (.tmp 68) (.tmp 71) 83 rfl 90 _ 3 32 Tryd.underlying83 tok_info rfl (by omega) w.heap.size A1 n1 c1 _ (by rfl) oa (w2.heap.size + 1) (some ⟨w2.heap.size, 0, none⟩) 1 1 [.int .i64 2, .string (⟨#[]⟩ : ByteArray), .int .i64 v] (by rfl) (three_reads (Blk.new w2 90 _)) (by intro u hu; simp at hu; rcases hu with rfl | rfl | rfl <;> rfl) (by unfold maxLen; omega) (by omega) (by simp; omega) ?_; intro A6 c6 w6 o6 b6 g6 _)
            go_roundw
            case rel => exact ⟨j, _, A6, n1 + 1, c6, rfl, rfl, hj, by omega, by rw [toks_snoc, HT.out]; exact o6, ba.trans b6, Lib.hid HW.out.2⟩
            case measure => simp [intOf]; omega
        have d1 : decide ((j : Int) < (s.size : Int)) = true := decide_eq_true (by omega)
        have hj0 : (j : Int) < (s.size : Int) := by omega
        have q5 : (j : Int) + 1 ≤ (s.size : Int) := by omega
        have e1 := byte_at s j hjlt
        obtain ⟨y1, hy1⟩ : ∃ y, s.get! j = y := ⟨_, rfl⟩
        have HY1 := Lib.hid hy1
        rw [hy1] at e1
        obtain ⟨x1, hx1⟩ : ∃ x, y1.toNat = x := ⟨_, rfl⟩
        have HX1 := Lib.hid hx1
        rw [hx1] at e1
        have hx1l : x1 < 256 := by rw [← hx1]; exact UInt8.toNat_lt y1
        clear hy1 hx1
        by_cases g1 : x1 = 32
        · have s1 : ((x1 : Int) != 32) = false := by simp; omega
          have s2 : ((x1 : Int) == 34) = false := by simp; omega
          have HW := Lib.hid (show i < j ∧ scanB s = ansB s j (bOut (out ++ [wordOf (s.extract i j)])) from by
            have h32 : s.get! j = 32 := by rw [HY1.out]; exact (u8_iff HX1.out 32 (by omega)).2 g1
            rcases HB.out with h | h
            · subst h; exact absurd h32 HN3.out.1
            · have : i ≠ j := by rintro rfl; exact absurd h32 HN3.out.1
              exact ⟨by omega, by rw [h, ans_word_end hj (fun _ => h32)]⟩)
          clear g1
          have hXs : (s.extract i j).size ≤ 2000 := by rw [ByteArray.size_extract]; omega
          have hij1 : i < j := HW.out.1
          go_wp2_with fail
          refine (refInt_any (s.extract i j) _ hXs).mono ?_
          rintro _ w2 ⟨v, ok, rfl, ha, b2⟩
          have b02 := btr hb b2 hb.size
          have o2 := own_below ho b2
          cases ok
          · have HT := Lib.hid (show tokC (tokT (wordOf (s.extract i j))) = [.int .i64 1, .string (s.extract i j), .int .i64 0] by rw [wordOf_word ha]; rfl)
            clear ha
            have oa := own_alloc o2 (.cells #[.int .i64 1, .string (s.extract i j), .int .i64 0] 90)
            have ba := b02.alloc b02.size (.cells #[.int .i64 1, .string (s.extract i j), .int .i64 0] 90)
            have zb := b02.size
            go_wp2_with (at_builtin; refine wpl_appR rfl (.tmp 73) (.tmp 79) 83 rfl 90 _ 3 32 Tryd.underlying83 tok_info rfl (by omega) w.heap.size A1 n1 c1 _ (by rfl) oa (w2.heap.size + 1) (some ⟨w2.heap.size, 0, none⟩) 1 1 [.int .i64 1, .string (s.extract i j), .int .i64 0] (by rfl) (three_reads (Blk.new w2 90 _)) (by intro u hu; simp at hu; rcases hu with rfl | rfl | rfl <;> rfl) (by unfold maxLen; omega) (by omega) (by simp; omega) ?_; intro A6 c6 w6 o6 b6 g6 _)
            go_roundw
            case rel => exact ⟨j, _, A6, n1 + 1, c6, rfl, rfl, hj, by omega, by rw [toks_snoc, HT.out]; exact o6, ba.trans b6, Lib.hid HW.out.2⟩
            case measure => simp [intOf]; omega
          · have HT := Lib.hid (show tokC (tokT (wordOf (s.extract i j))) = [.int .i64 2, .string (⟨#[]⟩ : ByteArray), .int .i64 v] by rw [wordOf_num ha]; rfl)
            clear ha
            have oa := own_alloc o2 (.cells #[.int .i64 2, .string (⟨#[]⟩ : ByteArray), .int .i64 v] 90)
            have ba := b02.alloc b02.size (.cells #[.int .i64 2, .string (⟨#[]⟩ : ByteArray), .int .i64 v] 90)
            have zb := b02.size
            go_wp2_with (at_builtin; refine wpl_appR rfl (.tmp 68) (.tmp 71) 83 rfl 90 _ 3 32 Tryd.underlying83 tok_info rfl (by omega) w.heap.size A1 n1 c1 _ (by rfl) oa (w2.heap.size + 1) (some ⟨w2.heap.size, 0, none⟩) 1 1 [.int .i64 2, .string (⟨#[]⟩ : ByteArray), .int .i64 v] (by rfl) (three_reads (Blk.new w2 90 _)) (by intro u hu; simp at hu; rcases hu with rfl | rfl | rfl <;> rfl) (by unfold maxLen; omega) (by omega) (by simp; omega) ?_; intro A6 c6 w6 o6 b6 g6 _)
            go_roundw
            case rel => exact ⟨j, _, A6, n1 + 1, c6, rfl, rfl, hj, by omega, by rw [toks_snoc, HT.out]; exact o6, ba.trans b6, Lib.hid HW.out.2⟩
            case measure => simp [intOf]; omega
        have s1 : ((x1 : Int) != 32) = true := by simp; omega
        have n32 : s.get! j ≠ 32 := by rw [HY1.out]; exact fun h => g1 ((u8_iff HX1.out 32 (by omega)).1 h)
        by_cases g2 : x1 = 34
        · have s2 : ((x1 : Int) != 34) = false := by simp; omega
          have s3 : ((x1 : Int) == 34) = true := by rw [g2]; rfl
          have HW := Lib.hid (show scanB s = ([], 5) from by
            have h34 : s.get! j = 34 := by rw [HY1.out]; exact (u8_iff HX1.out 34 (by omega)).2 g2
            rcases HB.out with h | h
            · subst h; exact absurd h34 HN3.out.2
            · rw [h, ans_word_bad hjlt h34])
          clear g1 g2 n32
          go_wp2_with fail
          go_ret2
          exact RetTok.bad HW.out hb
        · have s2 : ((x1 : Int) != 34) = true := by simp; omega
          have n34 : s.get! j ≠ 34 := by rw [HY1.out]; exact fun h => g2 ((u8_iff HX1.out 34 (by omega)).1 h)
          have HW := Lib.hid (show i = j + 1 ∨ scanB s = ansB s (j + 1) (bWord out i) from .inr (by
            rcases HB.out with h | h
            · subst h; rw [HA.out, ans_word hjlt n32 n34]
            · rw [h, ans_more hjlt n32 n34]))
          clear g1 g2 n32 n34
          go_wp2_with fail
          go_round
          case rel => exact ⟨j + 1, by go_num, by omega, by omega, HW⟩
          case measure => simp [intOf]; omega
    have t2 : ((x : Int) != 34) = false := by simp; omega
    have HN3 := Lib.hid (show scanB s = ansB s (i + 1) (bQuo out []) by rw [HA.out, ans_quo hlt (by rw [HY.out]; exact (u8_iff HX.out 34 (by omega)).2 g2)])
    clear g1 g2 n32
    go_wp2_with fail
    go_loop [5, 9] (fun v5 v9 => ∃ (j : Nat) (S : ByteArray), v5 = .int .i64 (j : Int) ∧ v9 = .string S ∧ i < j ∧ j ≤ s.size ∧ S.size ≤ j ∧ Hid (scanB s = ansB s j (bQuo out S.data.toList))) (fun v5 _ => s.size - (intOf v5).toNat)
    case atStart => exact ⟨i + 1, ⟨#[]⟩, by go_num, rfl, by omega, by omega, by show 0 ≤ _; omega, HN3⟩
    case round =>
      obtain ⟨j, S, rfl, rfl, hij, hj, hS, HB⟩ := hrel
      clear t1 t2 e0
      have hS0 : (S.size : Int) ≤ 200 := by omega
      have w1j : IntKind.i64.wrap ((j : Int) + 1) = (j : Int) + 1 := IntWalk.i64_in _ ⟨by omega, by omega⟩
      have q2 : (0 : Int) ≤ (j : Int) := by omega
      have q3 : (0 : Int) ≤ (j : Int) + 1 := by omega
      have q4 : ((j : Int) + 1).toNat = j + 1 := by omega
      have q6 : (j : Int) ≤ (j : Int) + 1 := by omega
      by_cases hjlt : j < s.size
      case neg =>
        have d1 : decide ((j : Int) < (s.size : Int)) = false := decide_eq_false (by omega)
        have d2 : ((j : Int) == (s.size : Int)) = true := by simp; omega
        have HW := Lib.hid (show scanB s = ([], 5) from by rw [HB.out, ans_quo_end (by omega)])
        go_wp2_with fail
        go_ret2
        exact RetTok.bad HW.out hb
      have d1 : decide ((j : Int) < (s.size : Int)) = true := decide_eq_true (by omega)
      have d2 : ((j : Int) == (s.size : Int)) = false := by simp; omega
      have hj0 : (j : Int) < (s.size : Int) := by omega
      have q5 : (j : Int) + 1 ≤ (s.size : Int) := by omega
      have e1 := byte_at s j hjlt
      obtain ⟨y1, hy1⟩ : ∃ y, s.get! j = y := ⟨_, rfl⟩
      have HY1 := Lib.hid hy1
      rw [hy1] at e1
      obtain ⟨x1, hx1⟩ : ∃ x, y1.toNat = x := ⟨_, rfl⟩
      have HX1 := Lib.hid hx1
      rw [hx1] at e1
      have hx1l : x1 < 256 := by rw [← hx1]; exact UInt8.toNat_lt y1
      clear hy1 hx1
      by_cases g1 : x1 = 34
      · have s1 : ((x1 : Int) != 34) = false := by simp; omega
        have h34 : s.get! j = 34 := by rw [HY1.out]; exact (u8_iff HX1.out 34 (by omega)).2 g1
        have H34 := Lib.hid h34
        clear g1 h34
        by_cases hj2 : j + 1 < s.size
        · have d3 : decide ((j : Int) + 1 < (s.size : Int)) = true := decide_eq_true (by omega)
          have hj20 : (j : Int) + 1 < (s.size : Int) := by omega
          have e2 := byte_at s (j + 1) hj2
          obtain ⟨y2, hy2⟩ : ∃ y, s.get! (j + 1) = y := ⟨_, rfl⟩
          have HY2 := Lib.hid hy2
          rw [hy2] at e2
          obtain ⟨x2, hx2⟩ : ∃ x, y2.toNat = x := ⟨_, rfl⟩
          have HX2 := Lib.hid hx2
          rw [hx2] at e2
          have hx2l : x2 < 256 := by rw [← hx2]; exact UInt8.toNat_lt y2
          clear hy2 hx2
          by_cases g2 : x2 = 32
          · have s2 : ((x2 : Int) != 32) = false := by simp; omega
            have HW := Lib.hid (show scanB s = ansB s (j + 1) (bOut (out ++ [.quo S])) from by
              rw [HB.out, ans_close_ok hjlt H34.out (fun _ => by rw [HY2.out]; exact (u8_iff HX2.out 32 (by omega)).2 g2), quo_arr])
            clear g2
            have oa := own_alloc ho (.cells #[.int .i64 3, .string S, .int .i64 0] 90)
            have ba := hb.alloc hb.size (.cells #[.int .i64 3, .string S, .int .i64 0] 90)
            have zb := hb.size
            go_wp2_with (at_builtin; refine wpl_appR rfl (.tmp 144) (.tmp 147) 83 rfl 90 _ 3 32 Tryd.underlying83 tok_info rfl (by omega) w.heap.size A1 n1 c1 _ (by rfl) oa (wr.heap.size + 1) (some ⟨wr.heap.size, 0, none⟩) 1 1 [.int .i64 3, .string S, .int .i64 0] (by rfl) (three_reads (Blk.new wr 90 _)) (by intro u hu; simp at hu; rcases hu with rfl | rfl | rfl <;> rfl) (by unfold maxLen; omega) (by omega) (by simp; omega) ?_; intro A6 c6 w6 o6 b6 g6 _)
            go_roundw
            case rel => exact ⟨j + 1, _, A6, n1 + 1, c6, rfl, by go_num, by omega, by omega, by rw [toks_snoc]; exact o6, ba.trans b6, HW⟩
            case measure => simp [intOf]; omega
          · have s2 : ((x2 : Int) != 32) = true := by simp; omega
            have HW := Lib.hid (show scanB s = ([], 5) from by
              rw [HB.out, ans_close_bad hjlt H34.out hj2 (by rw [HY2.out]; exact fun h => g2 ((u8_iff HX2.out 32 (by omega)).1 h))])
            clear g2
            go_wp2_with fail
            go_ret2
            exact RetTok.bad HW.out hb
        · have d3 : decide ((j : Int) + 1 < (s.size : Int)) = false := decide_eq_false (by omega)
          have HW := Lib.hid (show scanB s = ansB s (j + 1) (bOut (out ++ [.quo S])) from by
            rw [HB.out, ans_close_ok hjlt H34.out (fun h => absurd h hj2), quo_arr])
          have oa := own_alloc ho (.cells #[.int .i64 3, .string S, .int .i64 0] 90)
          have ba := hb.alloc hb.size (.cells #[.int .i64 3, .string S, .int .i64 0] 90)
          have zb := hb.size
          go_wp2_with (at_builtin; refine wpl_appR rfl (.tmp 144) (.tmp 147) 83 rfl 90 _ 3 32 Tryd.underlying83 tok_info rfl (by omega) w.heap.size A1 n1 c1 _ (by rfl) oa (wr.heap.size + 1) (some ⟨wr.heap.size, 0, none⟩) 1 1 [.int .i64 3, .string S, .int .i64 0] (by rfl) (three_reads (Blk.new wr 90 _)) (by intro u hu; simp at hu; rcases hu with rfl | rfl | rfl <;> rfl) (by unfold maxLen; omega) (by omega) (by simp; omega) ?_; intro A6 c6 w6 o6 b6 g6 _)
          go_roundw
          case rel => exact ⟨j + 1, _, A6, n1 + 1, c6, rfl, by go_num, by omega, by omega, by rw [toks_snoc]; exact o6, ba.trans b6, HW⟩
          case measure => simp [intOf]; omega
      have s1 : ((x1 : Int) != 34) = true := by simp; omega
      have n34 : s.get! j ≠ 34 := by rw [HY1.out]; exact fun h => g1 ((u8_iff HX1.out 34 (by omega)).1 h)
      by_cases g2 : x1 = 92
      case neg =>
        have s2 : ((x1 : Int) == 92) = false := by simp; omega
        have n92 : s.get! j ≠ 92 := by rw [HY1.out]; exact fun h => g2 ((u8_iff HX1.out 92 (by omega)).1 h)
        have HW := Lib.hid (show scanB s = ansB s (j + 1) (bQuo out (S ++ s.extract j (j + 1)).data.toList) from by rw [HB.out, ans_quo_more hjlt n92 n34, app_extract hjlt])
        have hSX : (S ++ s.extract j (j + 1)).size ≤ j + 1 := by rw [size_app, ByteArray.size_extract]; omega
        have hXX : (s.extract j (j + 1)).size = 1 := by rw [ByteArray.size_extract]; omega
        clear g1 g2 n34 n92
        go_wp2_with fail
        go_round
        case rel => exact ⟨j + 1, _, by go_num, rfl, by omega, by omega, hSX, HW⟩
        case measure => simp [intOf]; omega
      have s2 : ((x1 : Int) == 92) = true := by rw [g2]; rfl
      have H92 := Lib.hid (show s.get! j = 92 by rw [HY1.out]; exact (u8_iff HX1.out 92 (by omega)).2 g2)
      clear g1 g2 n34
      by_cases hj2 : j + 1 < s.size
      case neg =>
        have d3 : ((j : Int) + 1 == (s.size : Int)) = true := by simp; omega
        have HW := Lib.hid (show scanB s = ([], 5) from by rw [HB.out, ans_esc_end hjlt H92.out (by omega)])
        go_wp2_with fail
        go_ret2
        exact RetTok.bad HW.out hb
      have d3 : ((j : Int) + 1 == (s.size : Int)) = false := by simp; omega
      have hj20 : (j : Int) + 1 < (s.size : Int) := by omega
      have e2 := byte_at s (j + 1) hj2
      obtain ⟨y2, hy2⟩ : ∃ y, s.get! (j + 1) = y := ⟨_, rfl⟩
      have HY2 := Lib.hid hy2
      rw [hy2] at e2
      obtain ⟨x2, hx2⟩ : ∃ x, y2.toNat = x := ⟨_, rfl⟩
      have HX2 := Lib.hid hx2
      rw [hx2] at e2
      have hx2l : x2 < 256 := by rw [← hx2]; exact UInt8.toNat_lt y2
      have w2j : IntKind.i64.wrap ((j : Int) + 1 + 1) = (j : Int) + 1 + 1 := IntWalk.i64_in _ ⟨by omega, by omega⟩
      have q7 : (j : Int) + 1 + 1 ≤ (s.size : Int) := by omega
      have q8 : (0 : Int) ≤ (j : Int) + 1 + 1 := by omega
      have q9 : ((j : Int) + 1 + 1).toNat = j + 1 + 1 := by omega
      have q10 : (j : Int) + 1 ≤ (j : Int) + 1 + 1 := by omega
      clear hy2 hx2
      have HSX := fun (h3 : s.get! (j + 1) = 34 ∨ s.get! (j + 1) = 92) => Lib.hid (show scanB s = ansB s (j + 1 + 1) (bQuo out (S ++ s.extract (j + 1) (j + 1 + 1)).data.toList) from by rw [HB.out, ans_esc_more hjlt H92.out hj2 h3, app_extract hj2])
      have hSX : (S ++ s.extract (j + 1) (j + 1 + 1)).size ≤ j + 1 + 1 := by rw [size_app, ByteArray.size_extract]; omega
      have hXX : (s.extract (j + 1) (j + 1 + 1)).size = 1 := by rw [ByteArray.size_extract]; omega
      by_cases g1 : x2 = 34
      · have s3 : ((x2 : Int) != 34) = false := by simp; omega
        have HW := HSX (.inl (by rw [HY2.out]; exact (u8_iff HX2.out 34 (by omega)).2 g1))
        clear g1 HSX
        go_wp2_with fail
        go_round
        case rel => exact ⟨j + 1 + 1, _, by go_num, rfl, by omega, by omega, hSX, HW⟩
        case measure => simp [intOf]; omega
      have s3 : ((x2 : Int) != 34) = true := by simp; omega
      by_cases g2 : x2 = 92
      · have s4 : ((x2 : Int) != 92) = false := by simp; omega
        have HW := HSX (.inr (by rw [HY2.out]; exact (u8_iff HX2.out 92 (by omega)).2 g2))
        clear g1 g2 HSX
        go_wp2_with fail
        go_round
        case rel => exact ⟨j + 1 + 1, _, by go_num, rfl, by omega, by omega, hSX, HW⟩
        case measure => simp [intOf]; omega
      · have s4 : ((x2 : Int) != 92) = true := by simp; omega
        have HW := Lib.hid (show scanB s = ([], 5) from by rw [HB.out, ans_esc_bad hjlt H92.out hj2 (by rw [HY2.out]; exact fun h => g1 ((u8_iff HX2.out 34 (by omega)).1 h)) (by rw [HY2.out]; exact fun h => g2 ((u8_iff HX2.out 92 (by omega)).1 h))])
        clear g1 g2 HSX
        go_wp2_with fail
        go_ret2
        exact RetTok.bad HW.out hb
end Go.Proofs.YtnhkpnohadbcdaaDoor
