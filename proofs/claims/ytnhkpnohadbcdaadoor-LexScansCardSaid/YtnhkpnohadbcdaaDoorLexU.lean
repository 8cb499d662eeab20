/- Walks of layer 13 (lex): a text in quotes, by the document. No conditions but sizes. -/
import Derived.Test.YtnhkpnohadbcdaaDoorProg
import Derived.WalkKit
import Derived.WalkSpells
import Derived.WalkLawsBesides
import Derived.Outline
import Derived.Deep.QuietTactic
import Derived.BigQuiet
import Derived.Handy
import Derived.Lib.Hide
import Derived.Laws.RangeAny
import Derived.Test.YtnhkpnohadbcdaaDoorLexR
namespace Go.Proofs.YtnhkpnohadbcdaaDoor
open Go.RowKit
set_option linter.unusedSimpArgs false
set_option linter.unusedVariables false
/-- Bytes that are quoted. -/
def quoB (l : List UInt8) : List UInt8 := l.flatMap fun b => if b = 34 ∨ b = 92 then [92, b] else [b]
def quotePT (s : ByteArray) : List UInt8 := 34 :: quoB s.data.toList ++ [34]
theorem bytes_app (a b : ByteArray) : (a ++ b).data.toList = a.data.toList ++ b.data.toList := by simp [ByteArray.data_append]
theorem one_extract (s : ByteArray) (i : Nat) (h : i < s.size) : (s.extract i (i + 1)).data.toList = [s.get! i] := by
  rw [← ByteArray.toList_eq, Lib.extract_toList]
  have h' : i < s.data.toList.length := h
  rw [show i + 1 - i = 1 by omega, List.drop_eq_getElem_cons h', List.take_succ_cons, List.take_zero]
  have := get_at s i h
  rw [Nat.add_zero] at this
  rw [this]
  rfl
theorem quoB_take {s : ByteArray} {i : Nat} (h : i < s.size) : quoB (s.data.toList.take (i + 1)) = quoB (s.data.toList.take i) ++ (if s.get! i = 34 ∨ s.get! i = 92 then [92, s.get! i] else [s.get! i]) := by
  have h' : i < s.data.toList.length := h
  have := get_at s i h
  rw [Nat.add_zero] at this
  rw [List.take_succ_eq_append_getElem h', show s.data.toList[i] = s.get! i by rw [this]; rfl]
  simp [quoB]
def QuoIs (s S : ByteArray) : Prop := S.data.toList = if rightS s = true then quotePT s else []
theorem QuoIs.no {s : ByteArray} (h : rightS s = false) : QuoIs s ⟨#[]⟩ := by unfold QuoIs; rw [h]; rfl
theorem QuoIs.yes {s S : ByteArray} (h : rightS s = true) (hS : S.data.toList = quotePT s) : QuoIs s S := by unfold QuoIs; rw [h, if_pos rfl]; exact hS
theorem size_app (a b : ByteArray) : (a ++ b).size = a.size + b.size := ByteArray.size_append
set_option maxHeartbeats 8000000 in
set_option maxRecDepth 100000 in
theorem refQuote13 (s : ByteArray) (w : World) (hs : s.size ≤ 10000) : Calls Tryd.prog 73 #[.string s] w fun e w' => ∃ S : ByteArray, e = .returned (.tuple #[.string S, .bool (rightS s)]) ∧ QuoIs s S ∧ Below w.heap.size w w' := by
  have hs0 : (s.size : Int) ≤ 10000 := by omega
  obtain ⟨rb, hrb⟩ : ∃ rb, rightS s = rb := ⟨_, rfl⟩
  have HRB := Lib.hid hrb
  have HR := refRight13 s w (by omega)
  rw [hrb] at HR
  clear hrb
  cases rb
  · go_enter Tryd.func73, Tryd.ntmps73
    go_wp2_with fail
    refine HR.mono ?_
    rintro _ w1 ⟨rfl, b1⟩
    go_wp2_with fail
    go_ret2
    exact ⟨⟨#[]⟩, by rw [HRB.out] <;> rfl, QuoIs.no HRB.out, b1⟩
  go_enter Tryd.func73, Tryd.ntmps73
  go_wp2_with fail
  refine HR.mono ?_
  rintro _ w1 ⟨rfl, b1⟩
  go_wp2_with fail
  go_loopw [4, 5] (fun v4 v5 wr => ∃ (i : Nat) (S : ByteArray), i ≤ s.size ∧ v5 = .int .i64 (i : Int) ∧ v4 = .string S ∧ S.size ≤ 1 + 2 * i ∧ Below w.heap.size w wr ∧ Hid (S.data.toList = 34 :: quoB (s.data.toList.take i))) (fun _ v5 _ => s.size - (intOf v5).toNat)
  case atStart => exact ⟨0, ⟨#[34]⟩, by omega, rfl, rfl, by decide, b1, Lib.hid (by simp [quoB])⟩
  case round =>
    obtain ⟨i, S, hi, rfl, rfl, hsz, hb, HS⟩ := hrel
    have hszi : (S.size : Int) ≤ 20001 := by omega
    by_cases hlt : i < s.size
    · have d0 : decide ((i : Int) < (s.size : Int)) = true := decide_eq_true (by omega)
      have hi0 : (i : Int) < (s.size : Int) := by omega
      have e0 := byte_at s i hlt
      have hQ := quoB_take hlt
      have hX := one_extract s i hlt
      obtain ⟨X, hXX⟩ : ∃ X, s.extract i (i + 1) = X := ⟨_, rfl⟩
      rw [hXX] at hX
      obtain ⟨y, hy⟩ : ∃ y, s.get! i = y := ⟨_, rfl⟩
      rw [hy] at e0 hQ hX
      obtain ⟨x, hx⟩ : ∃ x, y.toNat = x := ⟨_, rfl⟩
      rw [hx] at e0
      have hxl : x < 256 := by rw [← hx]; exact UInt8.toNat_lt y
      have w1i : IntKind.i64.wrap ((i : Int) + 1) = (i : Int) + 1 := IntWalk.i64_in _ ⟨by omega, by omega⟩
      have p1 : (i : Int) + 1 ≤ (s.size : Int) := by omega
      have p2 : (0 : Int) ≤ (i : Int) := by omega
      have p3 : (0 : Int) ≤ (i : Int) + 1 := by omega
      have p4 : ((i : Int) + 1).toNat = i + 1 := by omega
      have p5 : (i : Int) ≤ (i : Int) + 1 := by omega
      have hy34 : y = 34 ↔ x = 34 := by rw [← hx]; exact ⟨fun h => by rw [h]; rfl, fun h => UInt8.toNat_inj.1 (by rw [h]; rfl)⟩
      have hy92 : y = 92 ↔ x = 92 := by rw [← hx]; exact ⟨fun h => by rw [h]; rfl, fun h => UInt8.toNat_inj.1 (by rw [h]; rfl)⟩
      have hXs : X.size = 1 := by rw [← hXX, ByteArray.size_extract]; omega
      have HY := Lib.hid (And.intro hQ hX)
      by_cases g1 : x = 34
      · have t1 : ((x : Int) == 34) = true := by rw [g1]; rfl
        have HN := Lib.hid (show (S ++ ⟨#[92]⟩ ++ X).data.toList = 34 :: quoB (s.data.toList.take (i + 1)) by rw [bytes_app, bytes_app, HS.out, HY.out.1, HY.out.2, if_pos (.inl (hy34.2 g1))]; simp)
        clear hQ hX hy hx hy34 hy92 g1
        go_wp2_with fail
        go_roundw
        case rel => exact ⟨i + 1, _, by omega, by go_num, rfl, by (try rw [size_app]); (try rw [size_app]); (try rw [show (⟨#[92]⟩ : ByteArray).size = 1 from rfl]); omega, hb, HN⟩
        case measure => simp [intOf]; omega
      have t1 : ((x : Int) == 34) = false := by simp; omega
      by_cases g2 : x = 92
      · have t2 : ((x : Int) == 92) = true := by rw [g2]; rfl
        have HN := Lib.hid (show (S ++ ⟨#[92]⟩ ++ X).data.toList = 34 :: quoB (s.data.toList.take (i + 1)) by rw [bytes_app, bytes_app, HS.out, HY.out.1, HY.out.2, if_pos (.inr (hy92.2 g2))]; simp)
        clear hQ hX hy hx hy34 hy92 g1 g2
        go_wp2_with fail
        go_roundw
        case rel => exact ⟨i + 1, _, by omega, by go_num, rfl, by (try rw [size_app]); (try rw [size_app]); (try rw [show (⟨#[92]⟩ : ByteArray).size = 1 from rfl]); omega, hb, HN⟩
        case measure => simp [intOf]; omega
      have t2 : ((x : Int) == 92) = false := by simp; omega
      have HN := Lib.hid (show (S ++ X).data.toList = 34 :: quoB (s.data.toList.take (i + 1)) by rw [bytes_app, HS.out, HY.out.1, HY.out.2, if_neg (by rw [hy34, hy92]; omega)]; simp)
      clear hQ hX hy hx hy34 hy92 g1 g2
      go_wp2_with fail
      go_roundw
      case rel => exact ⟨i + 1, _, by omega, by go_num, rfl, by (try rw [size_app]); (try rw [size_app]); (try rw [show (⟨#[92]⟩ : ByteArray).size = 1 from rfl]); omega, hb, HN⟩
      case measure => simp [intOf]; omega
    · have d0 : decide ((i : Int) < (s.size : Int)) = false := decide_eq_false (by omega)
      have HN := Lib.hid (show (S ++ ⟨#[34]⟩).data.toList = quotePT s by rw [bytes_app, HS.out, List.take_of_length_le (by show s.size ≤ i; omega)]; rfl)
      go_wp2_with fail
      go_ret2
      exact ⟨_, by rw [HRB.out] <;> rfl, QuoIs.yes HRB.out HN.out, hb⟩
end Go.Proofs.YtnhkpnohadbcdaaDoor
