/- Walks of layer 6 (open): whether two OPENs, or two faults, are the same; the time that two take. No conditions but sizes. -/
import Derived.Test.YtnhkpnohadbcdaaProg
import Derived.WalkKit
import Derived.WalkSpells
import Derived.WalkLawsBesides
import Derived.Outline
import Derived.Deep.QuietTactic
import Derived.BigQuiet
import Derived.Handy
import Derived.Lib.Hide
import Derived.Deep.DeepCutAuto
import Derived.Deep.CutBlock
import Derived.Test.YtnhkpnohadbcdaaOpnC
namespace Go.Proofs.Ytnhkpnohadbcdaa
open Go.RowKit
set_option linter.unusedSimpArgs false
set_option linter.unusedVariables false
/-- Yes or no, by what it tells. -/
def RetQ (w : World) (P : Prop) (e : Ending) (w' : World) : Prop := ∃ r : Bool, e = .returned (.bool r) ∧ (r = true ↔ P) ∧ Below w.heap.size w w'
theorem RetQ.no {w w' : World} {P : Prop} (h : ¬ P) (hb : Below w.heap.size w w') : RetQ w P (.returned (.bool false)) w' := ⟨false, rfl, ⟨(fun e => by cases e), fun e => absurd e h⟩, hb⟩
theorem RetQ.yes {w w' : World} {P : Prop} (h : P) (hb : Below w.heap.size w w') : RetQ w P (.returned (.bool true)) w' := ⟨true, rfl, ⟨fun _ => h, fun _ => rfl⟩, hb⟩
theorem ne_true {x y : Int} (h : ¬ x = y) : (x != y) = true := by simpa using h
theorem ne_false {x y : Int} (h : x = y) : (x != y) = false := by simpa using h
set_option maxHeartbeats 4000000 in
set_option maxRecDepth 100000 in
theorem refSame06 (v a h : Int) (i : Nat) (A : Option Addr) (n c : Nat) (l : List Cap) (v' a' h' : Int) (i' : Nat) (A' : Option Addr) (n' c' : Nat) (l' : List Cap) (w : World) (hd : DL rCap 2 w (Lo w) A n l) (hd' : DL rCap 2 w (Lo w) A' n' l') (hn : n ≤ 100000) :
    Calls Try.prog 13 #[.agg #[.int .i64 v, .int .i64 a, .int .i64 h, .int .u32 i, .slice A n c], .agg #[.int .i64 v', .int .i64 a', .int .i64 h', .int .u32 i', .slice A' n' c']] w (RetQ w ((⟨v, a, h, i, l⟩ : Opn) = ⟨v', a', h', i', l'⟩)) := by
  have HN := Lib.hid hd.len
  have HN' := Lib.hid hd'.len
  obtain ⟨W, hW, hX, hY, b0⟩ := boxes2 w #[.int .i64 v, .int .i64 a, .int .i64 h, .int .u32 i, .slice A n c] #[.int .i64 v', .int .i64 a', .int .i64 h', .int .u32 i', .slice A' n' c'] 25 25
  have hXl := hX.lt
  have hYl := hY.lt
  have HNO := Lib.hid (fun (hne : ¬ ((⟨v, a, h, i, l⟩ : Opn) = ⟨v', a', h', i', l'⟩)) wx hwx => RetQ.no (w := w) (w' := wx) hne hwx)
  go_enter Try.func13, Try.ntmps13
  go_upto_region 1 with fail
  try rw [hW]
  clear hW
  have x0 := hX.cell 0
  have x1 := hX.cell 1
  have x2 := hX.cell 2
  have x3 := hX.cell 3
  have x4 := hX.cell 4
  have y0 := hY.cell 0
  have y1 := hY.cell 1
  have y2 := hY.cell 2
  have y3 := hY.cell 3
  have y4 := hY.cell 4
  by_cases hq0 : (n : Int) = (n' : Int)
  case neg =>
    have tq0 : ((n : Int) != (n' : Int)) = true := ne_true hq0
    have HE := Lib.hid (HNO.out (fun e => hq0 (by injection e with _ _ _ _ e; have h1 := HN.out; have h2 := HN'.out; rw [e] at h1; omega)))
    go_wp2_with fail
    go_ret
    exact HE.out _ b0
  have tq0 : ((n : Int) != (n' : Int)) = false := ne_false hq0
  obtain rfl : n = n' := by omega
  clear hq0 tq0
  by_cases hq1 : v = v'
  case neg =>
    have tq1 : (v != v') = true := ne_true hq1
    have HE := Lib.hid (HNO.out (fun e => hq1 (by injection e)))
    go_wp2_with fail
    go_ret
    exact HE.out _ b0
  have tq1 : (v != v') = false := ne_false hq1
  have HQ1 := Lib.hid hq1
  clear hq1
  by_cases hq2 : a = a'
  case neg =>
    have tq2 : (a != a') = true := ne_true hq2
    have HE := Lib.hid (HNO.out (fun e => hq2 (by injection e)))
    go_wp2_with fail
    go_ret
    exact HE.out _ b0
  have tq2 : (a != a') = false := ne_false hq2
  have HQ2 := Lib.hid hq2
  clear hq2
  by_cases hq3 : h = h'
  case neg =>
    have tq3 : (h != h') = true := ne_true hq3
    have HE := Lib.hid (HNO.out (fun e => hq3 (by injection e)))
    go_wp2_with fail
    go_ret
    exact HE.out _ b0
  have tq3 : (h != h') = false := ne_false hq3
  have HQ3 := Lib.hid hq3
  clear hq3
  by_cases hq4 : (i : Int) = (i' : Int)
  case neg =>
    have tq4 : ((i : Int) != (i' : Int)) = true := ne_true hq4
    have HE := Lib.hid (HNO.out (fun e => hq4 (by injection e with _ _ _ e _; rw [e])))
    go_wp2_with fail
    go_ret
    exact HE.out _ b0
  have tq4 : ((i : Int) != (i' : Int)) = false := ne_false hq4
  obtain rfl : i = i' := by omega
  clear hq4 tq4
  have HQ := Lib.hid (show v = v' ∧ a = a' ∧ h = h' from ⟨HQ1.out, HQ2.out, HQ3.out⟩)
  have D1 := hd.keep rCap_ok ((Kp.lt b0).trans (Kp.sub fun b hb => Nat.lt_of_lt_of_le hb b0.size))
  have D2 := hd'.keep rCap_ok ((Kp.lt b0).trans (Kp.sub fun b hb => Nat.lt_of_lt_of_le hb b0.size))
  have HNL := Lib.hid (show ∀ (j : Nat) (x y : Cap), l[j]? = some x → l'[j]? = some y → x ≠ y → ¬ ((⟨v, a, h, i, l⟩ : Opn) = ⟨v', a', h', i, l'⟩) from fun j x y hx hy hne e => by
    injection e with _ _ _ _ e
    rw [e, hy] at hx
    injection hx with hx
    exact hne hx.symm)
  go_wp2_with fail
  clear x0 x1 x2 x3 y0 y1 y2 y3
  go_loopw [5] (fun s wr => ∃ j q : Nat, j ≤ n ∧ s = .int .i64 j ∧ wr = W.drewN q ∧ Hid (∀ i, i < j → l[i]? = l'[i]?)) (fun s _ => n - (intOf s).toNat)
  case atStart => exact ⟨0, 0, by omega, rfl, rfl, Lib.hid fun i h => by omega⟩
  case round =>
    obtain ⟨j, q, hj, rfl, rfl, hall⟩ := hrel
    by_cases hlt : j < n
    · obtain ⟨x, hx⟩ := getC HN.out hlt
      obtain ⟨y, hy⟩ := getC HN'.out (j := j) hlt
      obtain ⟨b, off, B1, m1, d1, rfl, hb, k0, k1, hbf, _⟩ := D1.capAt hx
      obtain ⟨b', off', B2, m2, d2, rfl, hb', k0', k1', hbf', _⟩ := D2.capAt hy
      obtain ⟨code, data⟩ := x
      obtain ⟨code', data'⟩ := y
      have HX := Lib.hid hx
      have HY := Lib.hid hy
      clear hx hy
      simp only at k0 k0' hbf hbf'
      have e2 : decide ((j : Int) < n) = true := decide_eq_true (by omega)
      have hlti : (j : Int) < n := by omega
      by_cases hc : code = code'
      case neg =>
        have ht : (code != code') = true := ne_true hc
        have HE := Lib.hid (HNO.out (HNL.out j _ _ HX.out HY.out fun e => hc (by injection e)))
        go_wp2_with fail
        go_quiet (fail)
        go_wp2_with fail
        go_ret
        exact HE.out _ (below_drewN (below_drewN b0 _) _)
      subst hc
      have HC := fun v => ref01Same B1 B2 m1 m2 d1 d2 data data' v W.heap.size W.heap.size
      cases hdd : (data == data')
      · have HE := Lib.hid (HNO.out (HNL.out j _ _ HX.out HY.out fun e => by injection e with _ e; rw [e, beq_self_eq_true] at hdd; cases hdd))
        rw [hdd] at HC
        have HC' := Lib.hid HC
        clear HC hdd
        go_wp2_with fail
        go_quiet ((go_at_call 11; first | exact quiet_left (HC'.out _ (hbf.lt.drewN _) (hbf'.lt.drewN _)) | exact quiet_add_left (HC'.out _ (hbf.lt.drewN _) (hbf'.lt.drewN _))))
        go_wp2_with fail
        go_ret
        exact HE.out _ (below_drewN (below_drewN b0 _) _)
      · have HS := Lib.hid (show ∀ i, i < j + 1 → l[i]? = l'[i]? from fun i hi => by
          rcases Nat.lt_or_ge i j with h1 | h1
          · exact hall.out i h1
          · rw [show i = j by omega, HX.out, HY.out, eq_of_beq hdd])
        rw [hdd] at HC
        have HC' := Lib.hid HC
        clear HC hdd
        go_wp2_with fail
        go_quiet ((go_at_call 11; first | exact quiet_left (HC'.out _ (hbf.lt.drewN _) (hbf'.lt.drewN _)) | exact quiet_add_left (HC'.out _ (hbf.lt.drewN _) (hbf'.lt.drewN _))))
        go_wp2_with fail
        go_roundw
        case rel => exact ⟨j + 1, q + nq, by omega, by go_num, rfl, HS⟩
        case measure => simp [intOf]; omega
    · have e2 : decide ((j : Int) < n) = false := decide_eq_false (by omega)
      have HE := Lib.hid (show (⟨v, a, h, i, l⟩ : Opn) = ⟨v', a', h', i, l'⟩ by
        have e : l = l' := List.ext_getElem? fun t => by
          rcases Nat.lt_or_ge t j with h1 | h1
          · exact hall.out t h1
          · rw [List.getElem?_eq_none (by have := HN.out; omega), List.getElem?_eq_none (by have := HN'.out; omega)]
        have := HQ.out
        rw [e, this.1, this.2.1, this.2.2])
      go_wp2_with fail
      go_ret
      exact RetQ.yes HE.out (below_drewN b0 _)
end Go.Proofs.Ytnhkpnohadbcdaa
