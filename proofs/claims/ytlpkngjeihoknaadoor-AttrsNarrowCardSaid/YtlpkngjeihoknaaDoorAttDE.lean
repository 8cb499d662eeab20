/- Joined texts: Walks of layer 3 (paths): whether two are the same; the document's; Walks of layer 4 (attributes): whether two are the same; the document's; Walks of layer 4 (attributes): whether two are the same, by the document. Conditions: those of the theorems. -/
import Derived.Test.YtlpkngjeihoknaaDoorProg
import Derived.WalkKit
import Derived.WalkSpells
import Derived.WalkLawsBesides
import Derived.Outline
import Derived.Deep.QuietTactic
import Derived.BigQuiet
import Derived.Handy
import Derived.Lib.Hide
import Derived.Deep.DeepCutAuto
import Derived.Deep.CutBlock
import Derived.Test.YtlpkngjeihoknaaDoorAspC
import Derived.Test.YtlpkngjeihoknaaDoorRef01
import Derived.Test.YtlpkngjeihoknaaDoorAttC
namespace Go.Proofs.YtlpkngjeihoknaaDoor
open Go.RowKit
set_option linter.unusedSimpArgs false
set_option linter.unusedVariables false
theorem quietN {P : Program} {f : FuncId} {args : Array Value} {w : World} {a n : Nat} {v : Value}
    (h : Calls P f args (w.drewN (a + n)) fun e w' => e = .returned v ∧ ∃ q, w' = (w.drewN (a + n)).drewN q) :
    Calls P f args (w.drewN (a + n)) fun e w'' => e = .returned v ∧ ∃ m, w'' = w.drewN (a + m) :=
  h.mono fun _ _ ⟨he, q, hq⟩ => ⟨he, n + q, by rw [hq, World.drewN_drewN]; congr 1; omega⟩
theorem quietN0 {P : Program} {f : FuncId} {args : Array Value} {w : World} {n : Nat} {v : Value}
    (h : Calls P f args (w.drewN n) fun e w' => e = .returned v ∧ ∃ q, w' = (w.drewN n).drewN q) :
    Calls P f args (w.drewN n) fun e w'' => e = .returned v ∧ ∃ m, w'' = w.drewN m :=
  h.mono fun _ _ ⟨he, q, hq⟩ => ⟨he, n + q, by rw [hq, World.drewN_drewN]⟩
set_option maxHeartbeats 1000000 in
set_option maxRecDepth 100000 in
theorem equalU (A A' : Option Addr) (n n' c c' : Nat) (l l' : List Int) (w : World) (B B' : Nat) (h : NS .u32 w B A n l) (h' : NS .u32 w B' A' n' l') (hbd : n ≤ 35184372088832) :
    Calls Tryd.prog 68 #[.slice A n c, .slice A' n' c'] w fun en w' => en = .returned (.bool (l == l')) ∧ ∃ q, w' = w.drewN q := by
  have hn : n = l.length := h.1
  have hn' : n' = l'.length := h'.1
  by_cases hlen : n = n'
  · have HN := Lib.hid hn
    have HN' := Lib.hid hn'
    subst hlen
    clear hn hn'
    go_enter Tryd.func68, Tryd.ntmps68
    go_wp2_with fail
    go_loopw [13] (fun i wr => ∃ j q : Nat, j ≤ n ∧ i = .int .i64 j ∧ wr = w.drewN q ∧ Hid (l.take j = l'.take j)) (fun i _ => n - (intOf i).toNat)
    case atStart => exact ⟨0, 0, by omega, rfl, rfl, Lib.hid rfl⟩
    case round =>
      obtain ⟨j, q, hj, rfl, rfl, ht⟩ := hrel
      by_cases hlt : j < n
      · obtain ⟨b, off, rfl, hbw, hcw⟩ := h.form hlt
        obtain ⟨b', off', rfl, hbw', hcw'⟩ := h'.form hlt
        have hlti : (j : Int) < n := by omega
        have hd : decide ((j : Int) < n) = true := decide_eq_true hlti
        obtain ⟨x, hx⟩ : ∃ x, l[j]?.getD 0 = x := ⟨_, rfl⟩
        obtain ⟨y, hy⟩ : ∃ y, l'[j]?.getD 0 = y := ⟨_, rfl⟩
        rw [hx] at hcw
        rw [hy] at hcw'
        have HXX := Lib.hid hx
        have HYY := Lib.hid hy
        clear hx hy
        by_cases e : x = y
        · subst e
          go_wp2_with fail
          go_quiet (fail)
          go_wp2_with fail
          go_roundw
          case rel =>
            refine ⟨j + 1, q + nq, by omega, by go_num, rfl, Lib.hid ?_⟩
            exact take_succ_eq ht.out (by have := HN.out; omega) (by have := HN'.out; omega) (HXX.out.trans HYY.out.symm)
          case measure => simp [intOf]; omega
        · have ht2 : (x != y) = true := by simpa using e
          go_wp2_with fail
          go_quiet (fail)
          go_wp2_with fail
          go_ret
          refine ⟨ret_b ?_, q + nq, World.drewN_drewN _ _ _⟩
          refine (beq_eq_false_iff_ne.2 fun hll => e ?_).symm
          rw [← HXX.out, ← HYY.out, hll]
      · have hj' : j = n := by omega
        go_wp2_with fail
        go_ret
        refine ⟨ret_b ?_, q, rfl⟩
        subst hj'
        have e := ht.out
        rw [List.take_of_length_le (by have := HN.out; omega), List.take_of_length_le (by have := HN'.out; omega)] at e
        rw [e, beq_self_eq_true]
  · have ht : ((n : Int) != n') = true := by simpa using (by omega : ¬ (n : Int) = n')
    have hf : (l == l') = false := beq_eq_false_iff_ne.2 fun e => hlen (by rw [hn, hn', e])
    go_enter Tryd.func68, Tryd.ntmps68
    go_wp2_with fail
    go_ret
    exact ⟨ret_b hf.symm, 0, rfl⟩
set_option maxHeartbeats 2000000 in
set_option maxRecDepth 100000 in
theorem sameSeg (k k' : Int) (A A' : Option Addr) (n n' c c' : Nat) (zs zs' : List Int) (w : World) (h : NS .u32 w w.heap.size A n zs) (h' : NS .u32 w w.heap.size A' n' zs') (hbd : n ≤ 35184372088832) :
    Calls Tryd.prog 67 #[.agg #[.int .i64 k, .slice A n c], .agg #[.int .i64 k', .slice A' n' c']] w fun e w' => e = .returned (.bool (k == k' && zs == zs')) ∧ Below w.heap.size w w' := by
  obtain ⟨W, hW, hX, hY, b0⟩ := boxes2 w #[.int .i64 k, .slice A n c] #[.int .i64 k', .slice A' n' c'] 73 73
  have x0 := hX.cell 0
  have x1 := hX.cell 1
  have y0 := hY.cell 0
  have y1 := hY.cell 1
  have ns := h.below b0
  have ns' := h'.below b0
  by_cases hk : k = k'
  · have t1 : (k == k') = true := by simpa using hk
    have HT := Lib.hid t1
    clear hk
    go_enter Tryd.func67, Tryd.ntmps67
    go_upto_region 1 with fail
    try rw [hW]
    clear hW
    go_wp2_with fail
    refine (equalU A A' n n' c c' zs zs' _ _ _ ns ns' hbd).mono ?_
    rintro _ _ ⟨rfl, q, rfl⟩
    go_wp2_with fail
    go_ret
    exact ⟨by rw [HT.out]; rfl, below_drewN b0 q⟩
  · have t1 : (k == k') = false := by simpa using hk
    have HT := Lib.hid t1
    clear hk
    go_enter Tryd.func67, Tryd.ntmps67
    go_upto_region 1 with fail
    try rw [hW]
    clear hW
    go_wp2_with fail
    go_ret
    exact ⟨by rw [HT.out]; rfl, b0⟩
theorem list_eq {α : Type} {l l' : List α} {n : Nat} (h : n = l.length) (h' : n = l'.length) (ha : ∀ i, i < n → l[i]? = l'[i]?) : l = l' :=
  List.ext_getElem? fun t => by
    rcases Nat.lt_or_ge t n with h1 | h1
    · exact ha t h1
    · rw [List.getElem?_eq_none (by omega), List.getElem?_eq_none (by omega)]
theorem seg_ne {x y : Seg} {l l' : List Seg} {j : Nat} (hx : l[j]? = some x) (hy : l'[j]? = some y) (h : (x.1 == y.1 && x.2 == y.2) = false) : (l == l') = false := by
  refine beq_eq_false_iff_ne.2 fun e => ?_
  rw [e, hy] at hx
  injection hx with hx
  subst hx
  simp at h
theorem seg_step {x y : Seg} {l l' : List Seg} {j : Nat} (ha : ∀ i, i < j → l[i]? = l'[i]?) (hx : l[j]? = some x) (hy : l'[j]? = some y) (h : (x.1 == y.1 && x.2 == y.2) = true) : ∀ i, i < j + 1 → l[i]? = l'[i]? := by
  intro i hi
  rcases Nat.lt_or_ge i j with h1 | h1
  · exact ha i h1
  · rw [show i = j by omega, hx, hy]
    simp only [Bool.and_eq_true, beq_iff_eq] at h
    congr 1
    exact Prod.ext h.1 h.2
set_option maxHeartbeats 4000000 in
set_option maxRecDepth 100000 in
theorem equalFuncS (A A' : Option Addr) (n n' c c' : Nat) (l l' : List Seg) (w : World) (hd : DL rSeg 2 w (Lo w) A n l) (hd' : DL rSeg 2 w (Lo w) A' n' l') (hn : n ≤ 100000) (hs : Hid (sumN l ≤ big32)) :
    Calls Tryd.prog 66 #[.slice A n c, .slice A' n' c', .func (.func 67) #[] #[]] w fun e w' => e = .returned (.bool (l == l')) ∧ Below w.heap.size w w' := by
  have HN := Lib.hid hd.len
  have HN' := Lib.hid hd'.len
  by_cases hlen : n = n'
  case neg =>
    have ht : ((n : Int) != n') = true := by simpa using (by omega : ¬ (n : Int) = n')
    have HF := Lib.hid (show (l == l') = false from beq_eq_false_iff_ne.2 fun e => hlen (by rw [HN.out, HN'.out, e]))
    clear hlen
    go_enter Tryd.func66, Tryd.ntmps66
    go_wp2_with fail
    go_ret
    exact ⟨ret_b HF.out.symm, Below.refl _ _⟩
  subst hlen
  have ht : ((n : Int) != n) = false := by simp
  go_enter Tryd.func66, Tryd.ntmps66
  go_wp2_with fail
  go_loopw [17] (fun i wr => ∃ j : Nat, j ≤ n ∧ i = .int .i64 j ∧ Hid (∀ i, i < j → l[i]? = l'[i]?) ∧ Below w.heap.size w wr) (fun i _ => n - (intOf i).toNat)
  case atStart => exact ⟨0, by omega, rfl, Lib.hid fun i h => by omega, Below.refl _ _⟩
  case round =>
    obtain ⟨j, hj, rfl, HA, hb⟩ := hrel
    by_cases hlt : j < n
    case neg =>
      have e2 : decide ((j : Int) < n) = false := decide_eq_false (by omega)
      have HF := Lib.hid (show (l == l') = true by
        have e := list_eq HN.out HN'.out (fun i hi => HA.out i (by omega))
        rw [e, beq_self_eq_true])
      go_wp2_with fail
      go_ret
      exact ⟨ret_b HF.out.symm, hb⟩
    have e2 : decide ((j : Int) < n) = true := decide_eq_true (by omega)
    have hlti : (j : Int) < n := by omega
    obtain ⟨x, hx⟩ := getS HN.out hlt
    obtain ⟨y, hy⟩ := getS HN'.out hlt
    have HX := Lib.hid hx
    have HY := Lib.hid hy
    have HNL := Lib.hid (show x.2.length ≤ 35184372088832 by have h1 := sumN_at hx; have h2 := hs.out; unfold big32 at h2; omega)
    obtain ⟨b, off, A1, n1, c1, rfl, hbl, k0w, k1w, hnf, hnc'⟩ := hd.segAt hx
    obtain ⟨b', off', A2, n2, c2, rfl, hbl', q0w, q1w, hnf', hnc2⟩ := hd'.segAt hy
    have hbl : b < w.heap.size := hbl
    have hbl' : b' < w.heap.size := hbl'
    have wj : IntKind.i64.wrap ((j : Int) + 1) = (j : Int) + 1 := IntWalk.i64_in _ ⟨by omega, by omega⟩
    have k0 := (hb.cell (p := ⟨b, off + j * 2, none⟩) hbl).trans k0w
    have k1 := (hb.cell (p := ⟨b, off + j * 2 + 1, none⟩) hbl).trans k1w
    have bX := hb.alloc hb.size (.cells #[.int .i64 x.1, .slice A1 n1 c1] 73)
    have bXY := bX.alloc bX.size (.cells #[.int .i64 y.1, .slice A2 n2 c2] 73)
    have q0 := (bX.cell (p := ⟨b', off' + j * 2, none⟩) hbl').trans q0w
    have q1 := (bX.cell (p := ⟨b', off' + j * 2 + 1, none⟩) hbl').trans q1w
    have hX := (Blk.new wr 73 #[.int .i64 x.1, .slice A1 n1 c1]).alloc (.cells #[.int .i64 y.1, .slice A2 n2 c2] 73)
    have hY := Blk.new (wr.alloc (.cells #[.int .i64 x.1, .slice A1 n1 c1] 73)) 73 #[.int .i64 y.1, .slice A2 n2 c2]
    rw [show (wr.alloc (.cells #[.int .i64 x.1, .slice A1 n1 c1] 73)).heap.size = wr.heap.size + 1 by simp] at hY
    have x0 := hX.cell 0
    have x1 := hX.cell 1
    have y0 := hY.cell 0
    have y1 := hY.cell 1
    have ns := (hnf.lt.below bXY).more bXY.size
    have ns' := (hnf'.lt.below bXY).more bXY.size
    have hl1 : n1 ≤ 35184372088832 := by have := hnf.1; have := HNL.out; omega
    have HL1 := Lib.hid hl1
    clear hl1 hx hy hnf hnf' k0w k1w q0w q1w
    obtain ⟨r, hr⟩ : ∃ r, (x.1 == y.1 && x.2 == y.2) = r := ⟨_, rfl⟩
    have HR := Lib.hid hr
    have HC := sameSeg x.1 y.1 A1 A2 n1 n2 c1 c2 x.2 y.2 _ ns ns' HL1.out
    rw [hr] at HC
    have HCC := Lib.hid HC
    clear hr HC
    go_wp2_with fail
    refine HCC.out.mono ?_
    rintro _ w2 ⟨rfl, b2⟩
    have b02 := btr bXY b2 bXY.size
    cases r
    · have HF := Lib.hid (seg_ne HX.out HY.out HR.out)
      go_wp2_with fail
      go_ret
      exact ⟨ret_b HF.out.symm, b02⟩
    · have HS := Lib.hid (seg_step HA.out HX.out HY.out HR.out)
      go_wp2_with fail
      go_roundw
      case rel => exact ⟨j + 1, by omega, by go_num, HS, b02⟩
      case measure => simp [intOf]; omega
set_option maxHeartbeats 2000000 in
set_option maxRecDepth 100000 in
theorem aspSame (A A' : Option Addr) (n n' c c' : Nat) (l l' : List Seg) (w : World) (hd : DL rSeg 2 w (Lo w) A n l) (hd' : DL rSeg 2 w (Lo w) A' n' l') (hn : n ≤ 100000) (hs : Hid (sumN l ≤ big32)) :
    Calls Tryd.prog 25 #[.slice A n c, .slice A' n' c'] w fun e w' => e = .returned (.bool (l == l')) ∧ Below w.heap.size w w' := by
  go_enter Tryd.func25, Tryd.ntmps25
  go_wp2_with fail
  refine (equalFuncS A A' n n' c c' l l' _ hd hd' hn hs).mono ?_
  rintro _ w1 ⟨rfl, b1⟩
  go_wp2_with fail
  go_ret
  exact ⟨rfl, b1⟩
set_option maxHeartbeats 4000000 in
set_option maxRecDepth 100000 in
theorem refSame03 (A A' : Option Addr) (n n' c c' : Nat) (l l' : List Seg) (w : World) (hd : DL rSeg 2 w (Lo w) A n l) (hd' : DL rSeg 2 w (Lo w) A' n' l') (hn : n ≤ 100000) (hs : Hid (sumN l ≤ big32)) :
    Calls Tryd.prog 22 #[.slice A n c, .slice A' n' c'] w fun e w' => e = .returned (.bool (l == l')) ∧ Below w.heap.size w w' := by
  have HN := Lib.hid hd.len
  have HN' := Lib.hid hd'.len
  by_cases hlen : n = n'
  case neg =>
    have ht : ((n : Int) != n') = true := by simpa using (by omega : ¬ (n : Int) = n')
    have HF := Lib.hid (show (l == l') = false from beq_eq_false_iff_ne.2 fun e => hlen (by rw [HN.out, HN'.out, e]))
    clear hlen
    go_enter Tryd.func22, Tryd.ntmps22
    go_wp2_with fail
    go_ret
    exact ⟨ret_b HF.out.symm, Below.refl _ _⟩
  subst hlen
  have ht : ((n : Int) != n) = false := by simp
  go_enter Tryd.func22, Tryd.ntmps22
  go_wp2_with fail
  go_loopw [5] (fun i wr => ∃ j q : Nat, j ≤ n ∧ i = .int .i64 j ∧ wr = w.drewN q ∧ Hid (∀ i, i < j → l[i]? = l'[i]?)) (fun i _ => n - (intOf i).toNat)
  case atStart => exact ⟨0, 0, by omega, rfl, rfl, Lib.hid fun i h => by omega⟩
  case round =>
    obtain ⟨j, q, hj, rfl, rfl, HA⟩ := hrel
    by_cases hlt : j < n
    case neg =>
      have e2 : decide ((j : Int) < n) = false := decide_eq_false (by omega)
      have HF := Lib.hid (show (l == l') = true by
        have e := list_eq HN.out HN'.out (fun i hi => HA.out i (by omega))
        rw [e, beq_self_eq_true])
      go_wp2_with fail
      go_ret
      exact ⟨ret_b HF.out.symm, below_drewN (Below.refl _ _) q⟩
    have e2 : decide ((j : Int) < n) = true := decide_eq_true (by omega)
    have hlti : (j : Int) < n := by omega
    obtain ⟨x, hx⟩ := getS HN.out hlt
    obtain ⟨y, hy⟩ := getS HN'.out hlt
    have HX := Lib.hid hx
    have HY := Lib.hid hy
    have HNL := Lib.hid (show x.2.length ≤ 35184372088832 by have h1 := sumN_at hx; have h2 := hs.out; unfold big32 at h2; omega)
    obtain ⟨b, off, A1, n1, c1, rfl, hbl, k0, k1, hnf, hnc'⟩ := hd.segAt hx
    obtain ⟨b', off', A2, n2, c2, rfl, hbl', q0, q1, hnf', hnc2⟩ := hd'.segAt hy
    have wj : IntKind.i64.wrap ((j : Int) + 1) = (j : Int) + 1 := IntWalk.i64_in _ ⟨by omega, by omega⟩
    have HL1 := Lib.hid (show n1 ≤ 35184372088832 by have := hnf.1; have := HNL.out; omega)
    clear hx hy
    obtain ⟨k, hk⟩ : ∃ k, x.1 = k := ⟨_, rfl⟩
    have HK := Lib.hid hk
    rw [hk] at k0
    obtain ⟨k', hk'⟩ : ∃ k', y.1 = k' := ⟨_, rfl⟩
    have HK' := Lib.hid hk'
    rw [hk'] at q0
    clear hk hk'
    by_cases hkk : k = k'
    case neg =>
      have tk : (k != k') = true := by simpa using hkk
      have HF := Lib.hid (seg_ne HX.out HY.out (by rw [HK.out, HK'.out, beq_eq_false_iff_ne.2 hkk, Bool.false_and]))
      clear hkk
      go_wp2_with fail
      go_quiet (fail)
      go_wp2_with fail
      go_ret
      exact ⟨ret_b HF.out.symm, below_drewN (below_drewN (Below.refl _ _) _) _⟩
    subst hkk
    have tk : (k != k) = false := by simp
    have HC := fun v (hv : NS .u32 v w.heap.size A1 n1 x.2) (hv' : NS .u32 v w.heap.size A2 n2 y.2) => refNums A1 A2 n1 n2 c1 c2 x.2 y.2 v _ _ hv hv' HL1.out
    have ns1 : NS .u32 w w.heap.size A1 n1 x.2 := hnf.lt
    have ns2 : NS .u32 w w.heap.size A2 n2 y.2 := hnf'.lt
    cases hdd : (x.2 == y.2)
    · have HF := Lib.hid (seg_ne HX.out HY.out (by rw [hdd, Bool.and_false]))
      rw [hdd] at HC
      have HC' := Lib.hid HC
      clear HC hdd hnf hnf'
      go_wp2_with fail
      go_quiet ((go_at_call 33; first | exact quietN0 (HC'.out _ ns1 ns2) | exact quietN (HC'.out _ ns1 ns2)))
      go_wp2_with fail
      go_ret
      exact ⟨ret_b HF.out.symm, below_drewN (below_drewN (Below.refl _ _) _) _⟩
    · have HS := Lib.hid (seg_step HA.out HX.out HY.out (by rw [HK.out, HK'.out, hdd, beq_self_eq_true]; rfl))
      rw [hdd] at HC
      have HC' := Lib.hid HC
      clear HC hdd hnf hnf'
      go_wp2_with fail
      go_quiet ((go_at_call 33; first | exact quietN0 (HC'.out _ ns1 ns2) | exact quietN (HC'.out _ ns1 ns2)))
      go_wp2_with fail
      go_roundw
      case rel => exact ⟨j + 1, q + nq, by omega, by go_num, rfl, HS⟩
      case measure => simp [intOf]; omega
end Go.Proofs.YtlpkngjeihoknaaDoor
namespace Go.Proofs.YtlpkngjeihoknaaDoor
open Go.RowKit
set_option linter.unusedSimpArgs false
set_option linter.unusedVariables false
set_option maxHeartbeats 1000000 in
set_option maxRecDepth 100000 in
theorem equalN8 (A A' : Option Addr) (n n' c c' : Nat) (l l' : List Int) (w : World) (B B' : Nat) (h : NS .u8 w B A n l) (h' : NS .u8 w B' A' n' l') (hbd : n ≤ 140737488355320) :
    Calls Tryd.prog 92 #[.slice A n c, .slice A' n' c'] w fun en w' => en = .returned (.bool (l == l')) ∧ ∃ q, w' = w.drewN q := by
  have hn : n = l.length := h.1
  have hn' : n' = l'.length := h'.1
  by_cases hlen : n = n'
  · have HN := Lib.hid hn
    have HN' := Lib.hid hn'
    subst hlen
    clear hn hn'
    go_enter Tryd.func92, Tryd.ntmps92
    go_wp2_with fail
    go_loopw [13] (fun i wr => ∃ j q : Nat, j ≤ n ∧ i = .int .i64 j ∧ wr = w.drewN q ∧ Hid (l.take j = l'.take j)) (fun i _ => n - (intOf i).toNat)
    case atStart => exact ⟨0, 0, by omega, rfl, rfl, Lib.hid rfl⟩
    case round =>
      obtain ⟨j, q, hj, rfl, rfl, ht⟩ := hrel
      by_cases hlt : j < n
      · obtain ⟨b, off, rfl, hbw, hcw⟩ := h.form hlt
        obtain ⟨b', off', rfl, hbw', hcw'⟩ := h'.form hlt
        have hlti : (j : Int) < n := by omega
        have hd : decide ((j : Int) < n) = true := decide_eq_true hlti
        obtain ⟨x, hx⟩ : ∃ x, l[j]?.getD 0 = x := ⟨_, rfl⟩
        obtain ⟨y, hy⟩ : ∃ y, l'[j]?.getD 0 = y := ⟨_, rfl⟩
        rw [hx] at hcw
        rw [hy] at hcw'
        have HXX := Lib.hid hx
        have HYY := Lib.hid hy
        clear hx hy
        by_cases e : x = y
        · subst e
          go_wp2_with fail
          go_quiet (fail)
          go_wp2_with fail
          go_roundw
          case rel =>
            refine ⟨j + 1, q + nq, by omega, by go_num, rfl, Lib.hid ?_⟩
            exact take_succ_eq ht.out (by have := HN.out; omega) (by have := HN'.out; omega) (HXX.out.trans HYY.out.symm)
          case measure => simp [intOf]; omega
        · have ht2 : (x != y) = true := by simpa using e
          go_wp2_with fail
          go_quiet (fail)
          go_wp2_with fail
          go_ret
          refine ⟨ret_b ?_, q + nq, World.drewN_drewN _ _ _⟩
          refine (beq_eq_false_iff_ne.2 fun hll => e ?_).symm
          rw [← HXX.out, ← HYY.out, hll]
      · have hj' : j = n := by omega
        go_wp2_with fail
        go_ret
        refine ⟨ret_b ?_, q, rfl⟩
        subst hj'
        have e := ht.out
        rw [List.take_of_length_le (by have := HN.out; omega), List.take_of_length_le (by have := HN'.out; omega)] at e
        rw [e, beq_self_eq_true]
  · have ht : ((n : Int) != n') = true := by simpa using (by omega : ¬ (n : Int) = n')
    have hf : (l == l') = false := beq_eq_false_iff_ne.2 fun e => hlen (by rw [hn, hn', e])
    go_enter Tryd.func92, Tryd.ntmps92
    go_wp2_with fail
    go_ret
    exact ⟨ret_b hf.symm, 0, rfl⟩
theorem BS.ns8 {w : World} {B n : Nat} {A : Option Addr} {l : List UInt8} (h : BS w B A n l) : NS .u8 w B A n (l.map fun b => ((b.toNat : Nat) : Int)) := by
  refine ⟨by rw [List.length_map]; exact h.1, ?_, fun x hx => ?_⟩
  · have := h.2
    unfold bv at this
    rw [List.map_map]
    exact this
  · obtain ⟨b, _, rfl⟩ := List.mem_map.1 hx
    have := UInt8.toNat_lt b
    simp [Lit.wf, IntKind.min, IntKind.max, IntKind.signed, IntKind.bits]
    omega
theorem bytes_eq (l l' : List UInt8) : ((l.map fun b => ((b.toNat : Nat) : Int)) == (l'.map fun b => ((b.toNat : Nat) : Int))) = (l == l') := by
  rw [Bool.eq_iff_iff, beq_iff_eq, beq_iff_eq]
  refine ⟨fun h => ?_, fun h => by rw [h]⟩
  refine (List.map_inj_right (f := fun b : UInt8 => ((b.toNat : Nat) : Int)) (fun a b e => ?_)).1 h
  exact UInt8.toNat_inj.1 (by omega)
theorem equalB (A A' : Option Addr) (n n' c c' : Nat) (l l' : List UInt8) (w : World) (B B' : Nat) (h : BS w B A n l) (h' : BS w B' A' n' l') (hbd : n ≤ 140737488355320) :
    Calls Tryd.prog 92 #[.slice A n c, .slice A' n' c'] w fun en w' => en = .returned (.bool (l == l')) ∧ ∃ q, w' = w.drewN q := by
  have := equalN8 A A' n n' c c' _ _ w B B' h.ns8 h'.ns8 hbd
  rwa [bytes_eq] at this
set_option maxHeartbeats 2000000 in
set_option maxRecDepth 100000 in
theorem sameRaw (f t f' t' : Int) (A A' : Option Addr) (n n' c c' : Nat) (zs zs' : List UInt8) (w : World) (h : BS w w.heap.size A n zs) (h' : BS w w.heap.size A' n' zs') (hbd : n ≤ 140737488355320) :
    Calls Tryd.prog 91 #[.agg #[.int .i64 f, .int .i64 t, .slice A n c], .agg #[.int .i64 f', .int .i64 t', .slice A' n' c']] w fun e w' => e = .returned (.bool (f == f' && (t == t' && zs == zs'))) ∧ Below w.heap.size w w' := by
  obtain ⟨W, hW, hX, hY, b0⟩ := boxes2 w #[.int .i64 f, .int .i64 t, .slice A n c] #[.int .i64 f', .int .i64 t', .slice A' n' c'] 100 100
  have x0 := hX.cell 0
  have x1 := hX.cell 1
  have x2 := hX.cell 2
  have y0 := hY.cell 0
  have y1 := hY.cell 1
  have y2 := hY.cell 2
  have ns := h.below b0
  have ns' := h'.below b0
  by_cases hk : f = f'
  case neg =>
    have t1 : (f == f') = false := by simpa using hk
    have HT := Lib.hid t1
    clear hk
    go_enter Tryd.func91, Tryd.ntmps91
    go_upto_region 1 with fail
    try rw [hW]
    clear hW
    go_wp2_with fail
    go_ret
    exact ⟨by rw [HT.out]; rfl, b0⟩
  have t1 : (f == f') = true := by simpa using hk
  have HT := Lib.hid t1
  clear hk
  by_cases hk2 : t = t'
  case neg =>
    have t2 : (t == t') = false := by simpa using hk2
    have HT2 := Lib.hid t2
    clear hk2
    go_enter Tryd.func91, Tryd.ntmps91
    go_upto_region 1 with fail
    try rw [hW]
    clear hW
    go_wp2_with fail
    go_ret
    exact ⟨by rw [HT.out, HT2.out]; rfl, b0⟩
  have t2 : (t == t') = true := by simpa using hk2
  have HT2 := Lib.hid t2
  clear hk2
  go_enter Tryd.func91, Tryd.ntmps91
  go_upto_region 1 with fail
  try rw [hW]
  clear hW
  go_wp2_with fail
  refine (equalB A A' n n' c c' zs zs' _ _ _ ns ns' hbd).mono ?_
  rintro _ _ ⟨rfl, q, rfl⟩
  go_wp2_with fail
  go_ret
  exact ⟨by rw [HT.out, HT2.out]; rfl, below_drewN b0 q⟩
theorem raw_ne {x y : RawV} {l l' : List RawV} {j : Nat} (hx : l[j]? = some x) (hy : l'[j]? = some y) (h : (x.1 == y.1 && (x.2.1 == y.2.1 && x.2.2 == y.2.2)) = false) : (l == l') = false := by
  refine beq_eq_false_iff_ne.2 fun e => ?_
  rw [e, hy] at hx
  injection hx with hx
  subst hx
  simp at h
theorem raw_step {x y : RawV} {l l' : List RawV} {j : Nat} (ha : ∀ i, i < j → l[i]? = l'[i]?) (hx : l[j]? = some x) (hy : l'[j]? = some y) (h : (x.1 == y.1 && (x.2.1 == y.2.1 && x.2.2 == y.2.2)) = true) : ∀ i, i < j + 1 → l[i]? = l'[i]? := by
  intro i hi
  rcases Nat.lt_or_ge i j with h1 | h1
  · exact ha i h1
  · rw [show i = j by omega, hx, hy]
    simp only [Bool.and_eq_true, beq_iff_eq] at h
    congr 1
    exact Prod.ext h.1 (Prod.ext h.2.1 h.2.2)
set_option maxHeartbeats 4000000 in
set_option maxRecDepth 100000 in
theorem equalFuncR (A A' : Option Addr) (n n' c c' : Nat) (l l' : List RawV) (w : World) (hd : DL rRaw 3 w (Lo w) A n l) (hd' : DL rRaw 3 w (Lo w) A' n' l') (hn : n ≤ 100000) (hs : Hid (∀ x ∈ l, x.2.2.length ≤ 100000)) :
    Calls Tryd.prog 93 #[.slice A n c, .slice A' n' c', .func (.func 91) #[] #[]] w fun e w' => e = .returned (.bool (l == l')) ∧ Below w.heap.size w w' := by
  have HN := Lib.hid hd.len
  have HN' := Lib.hid hd'.len
  by_cases hlen : n = n'
  case neg =>
    have ht : ((n : Int) != n') = true := by simpa using (by omega : ¬ (n : Int) = n')
    have HF := Lib.hid (show (l == l') = false from beq_eq_false_iff_ne.2 fun e => hlen (by rw [HN.out, HN'.out, e]))
    clear hlen
    go_enter Tryd.func93, Tryd.ntmps93
    go_wp2_with fail
    go_ret
    exact ⟨ret_b HF.out.symm, Below.refl _ _⟩
  subst hlen
  have ht : ((n : Int) != n) = false := by simp
  go_enter Tryd.func93, Tryd.ntmps93
  go_wp2_with fail
  go_loopw [17] (fun i wr => ∃ j : Nat, j ≤ n ∧ i = .int .i64 j ∧ Hid (∀ i, i < j → l[i]? = l'[i]?) ∧ Below w.heap.size w wr) (fun i _ => n - (intOf i).toNat)
  case atStart => exact ⟨0, by omega, rfl, Lib.hid fun i h => by omega, Below.refl _ _⟩
  case round =>
    obtain ⟨j, hj, rfl, HA, hb⟩ := hrel
    by_cases hlt : j < n
    case neg =>
      have e2 : decide ((j : Int) < n) = false := decide_eq_false (by omega)
      have HF := Lib.hid (show (l == l') = true by
        have e := list_eq HN.out HN'.out (fun i hi => HA.out i (by omega))
        rw [e, beq_self_eq_true])
      go_wp2_with fail
      go_ret
      exact ⟨ret_b HF.out.symm, hb⟩
    have e2 : decide ((j : Int) < n) = true := decide_eq_true (by omega)
    have hlti : (j : Int) < n := by omega
    obtain ⟨x, hx⟩ := getL HN.out hlt
    obtain ⟨y, hy⟩ := getL HN'.out hlt
    have HX := Lib.hid hx
    have HY := Lib.hid hy
    have HNL := Lib.hid (hs.out x (List.mem_of_getElem? hx))
    obtain ⟨b, off, A1, n1, c1, rfl, hbl, k0w, k1w, k2w, hnf, hnc', _, _⟩ := hd.rawAt hx
    obtain ⟨b', off', A2, n2, c2, rfl, hbl', q0w, q1w, q2w, hnf', hnc2, _, _⟩ := hd'.rawAt hy
    have hbl : b < w.heap.size := hbl
    have hbl' : b' < w.heap.size := hbl'
    have wj : IntKind.i64.wrap ((j : Int) + 1) = (j : Int) + 1 := IntWalk.i64_in _ ⟨by omega, by omega⟩
    have k0 := (hb.cell (p := ⟨b, off + j * 3, none⟩) hbl).trans k0w
    have k1 := (hb.cell (p := ⟨b, off + j * 3 + 1, none⟩) hbl).trans k1w
    have k2 := (hb.cell (p := ⟨b, off + j * 3 + 2, none⟩) hbl).trans k2w
    have bX := hb.alloc hb.size (.cells #[.int .i64 x.1, .int .i64 x.2.1, .slice A1 n1 c1] 100)
    have bXY := bX.alloc bX.size (.cells #[.int .i64 y.1, .int .i64 y.2.1, .slice A2 n2 c2] 100)
    have q0 := (bX.cell (p := ⟨b', off' + j * 3, none⟩) hbl').trans q0w
    have q1 := (bX.cell (p := ⟨b', off' + j * 3 + 1, none⟩) hbl').trans q1w
    have q2 := (bX.cell (p := ⟨b', off' + j * 3 + 2, none⟩) hbl').trans q2w
    have hX := (Blk.new wr 100 #[.int .i64 x.1, .int .i64 x.2.1, .slice A1 n1 c1]).alloc (.cells #[.int .i64 y.1, .int .i64 y.2.1, .slice A2 n2 c2] 100)
    have hY := Blk.new (wr.alloc (.cells #[.int .i64 x.1, .int .i64 x.2.1, .slice A1 n1 c1] 100)) 100 #[.int .i64 y.1, .int .i64 y.2.1, .slice A2 n2 c2]
    rw [show (wr.alloc (.cells #[.int .i64 x.1, .int .i64 x.2.1, .slice A1 n1 c1] 100)).heap.size = wr.heap.size + 1 by simp] at hY
    have x0 := hX.cell 0
    have x1 := hX.cell 1
    have x2 := hX.cell 2
    have y0 := hY.cell 0
    have y1 := hY.cell 1
    have y2 := hY.cell 2
    have ns := ((hnf.lt.below bXY).more bXY.size)
    have ns' := ((hnf'.lt.below bXY).more bXY.size)
    have hl1 : n1 ≤ 140737488355320 := by have := hnf.1; have := HNL.out; omega
    have HL1 := Lib.hid hl1
    clear hl1 hx hy hnf hnf' k0w k1w q0w q1w k2w q2w
    obtain ⟨r, hr⟩ : ∃ r, (x.1 == y.1 && (x.2.1 == y.2.1 && x.2.2 == y.2.2)) = r := ⟨_, rfl⟩
    have HR := Lib.hid hr
    have HC := sameRaw x.1 x.2.1 y.1 y.2.1 A1 A2 n1 n2 c1 c2 x.2.2 y.2.2 _ ns ns' HL1.out
    rw [hr] at HC
    have HCC := Lib.hid HC
    clear hr HC
    go_wp2_with fail
    refine HCC.out.mono ?_
    rintro _ w2 ⟨rfl, b2⟩
    have b02 := btr bXY b2 bXY.size
    cases r
    · have HF := Lib.hid (raw_ne HX.out HY.out HR.out)
      go_wp2_with fail
      go_ret
      exact ⟨ret_b HF.out.symm, b02⟩
    · have HS := Lib.hid (raw_step HA.out HX.out HY.out HR.out)
      go_wp2_with fail
      go_roundw
      case rel => exact ⟨j + 1, by omega, by go_num, HS, b02⟩
      case measure => simp [intOf]; omega
def sameAt (a b : At) : Bool := a.path == b.path && a.comms == b.comms && a.raws == b.raws && a.origin == b.origin && a.next == b.next && a.med == b.med && a.pref == b.pref && a.atomic == b.atomic && a.hasAggr == b.hasAggr && a.aggrAS == b.aggrAS && a.aggrAddr == b.aggrAddr
theorem sameAt_iff {a b : At} : sameAt a b = true ↔ a = b := by
  unfold sameAt
  simp only [Bool.and_eq_true, beq_iff_eq]
  constructor
  · rintro ⟨⟨⟨⟨⟨⟨⟨⟨⟨⟨h1, h2⟩, h3⟩, h4⟩, h5⟩, h6⟩, h7⟩, h8⟩, h9⟩, h10⟩, h11⟩
    cases a; cases b
    simp only at h1 h2 h3 h4 h5 h6 h7 h8 h9 h10 h11
    subst h1 h2 h3 h4 h5 h6 h7 h8 h9 h10 h11
    rfl
  · rintro rfl
    simp
theorem sameAt_no {a b : At} (h : a ≠ b) : sameAt a b = false := by
  cases hs : sameAt a b
  · rfl
  · exact absurd (sameAt_iff.1 hs) h
theorem sameAt_self (a : At) : sameAt a a = true := sameAt_iff.2 rfl
theorem sameAt_comm (a b : At) : sameAt a b = sameAt b a := by
  by_cases h : a = b
  · rw [h]
  · rw [sameAt_no h, sameAt_no (fun e => h e.symm)]
set_option maxHeartbeats 8000000 in
set_option maxRecDepth 100000 in
theorem attSame (o : Int) (A : Option Addr) (n c : Nat) (path : List Seg) (nx md pf : Int) (at_ ha : Bool) (gs ga : Int) (A1 : Option Addr) (n1 c1 : Nat) (comms : List Int) (A2 : Option Addr) (n2 c2 : Nat) (raws : List RawV) (o' : Int) (A' : Option Addr) (n' c' : Nat) (path' : List Seg) (nx' md' pf' : Int) (at_' ha' : Bool) (gs' ga' : Int) (A1' : Option Addr) (n1' c1' : Nat) (comms' : List Int) (A2' : Option Addr) (n2' c2' : Nat) (raws' : List RawV) (w : World) (hp : DL rSeg 2 w (Lo w) A n path) (hc : NF w (Lo w) A1 n1 comms) (hd : DL rRaw 3 w (Lo w) A2 n2 raws) (hp' : DL rSeg 2 w (Lo w) A' n' path') (hc' : NF w (Lo w) A1' n1' comms') (hd' : DL rRaw 3 w (Lo w) A2' n2' raws') (hn : n ≤ 100000) (hs : Hid (sumN path ≤ big32)) (hn1 : n1 ≤ 100000) (hn2 : n2 ≤ 100000) (hr : Hid (∀ x ∈ raws, x.2.2.length ≤ 100000)) :
    Calls Tryd.prog 57 #[.agg #[.int .i64 o, .slice A n c, .int .u32 nx, .int .i64 md, .int .i64 pf, .bool at_, .bool ha, .int .u32 gs, .int .u32 ga, .slice A1 n1 c1, .slice A2 n2 c2], .agg #[.int .i64 o', .slice A' n' c', .int .u32 nx', .int .i64 md', .int .i64 pf', .bool at_', .bool ha', .int .u32 gs', .int .u32 ga', .slice A1' n1' c1', .slice A2' n2' c2']] w fun en w' => en = .returned (.bool (sameAt (⟨o, path, nx, md, pf, at_, ha, gs, ga, comms, raws⟩ : At) (⟨o', path', nx', md', pf', at_', ha', gs', ga', comms', raws'⟩ : At))) ∧ Below w.heap.size w w' := by
  have HN := Lib.hid hd.len
  have HN' := Lib.hid hd'.len
  have HC := Lib.hid hc.1
  have HC' := Lib.hid hc'.1
  obtain ⟨W, hW, hX, hY, bW⟩ := boxes2 w #[.int .i64 o, .slice A n c, .int .u32 nx, .int .i64 md, .int .i64 pf, .bool at_, .bool ha, .int .u32 gs, .int .u32 ga, .slice A1 n1 c1, .slice A2 n2 c2] #[.int .i64 o', .slice A' n' c', .int .u32 nx', .int .i64 md', .int .i64 pf', .bool at_', .bool ha', .int .u32 gs', .int .u32 ga', .slice A1' n1' c1', .slice A2' n2' c2'] 54 54
  have hdW := hd.keep rRaw_ok (Kp.call bW)
  have hdW' := hd'.keep rRaw_ok (Kp.call bW)
  have hpW := hp.keep rSeg_ok (Kp.call bW)
  have hpW' := hp'.keep rSeg_ok (Kp.call bW)
  have hcW := hc.keep (Kp.call bW)
  have hcW' := hc'.keep (Kp.call bW)
  go_enter Tryd.func57, Tryd.ntmps57
  go_upto_region 1 with fail
  try rw [hW]
  clear hW
  have hXl := hX.lt
  have hYl := hY.lt
  obtain ⟨q, hq⟩ : ∃ q, w.heap.size = q := ⟨_, rfl⟩
  have HQ := Lib.hid hq
  rw [hq] at hX hY hXl hYl
  try rw [hq]
  clear hq hp hp' hc hc' hd hd'
  have x1 : W.cell? ⟨q, 1, none⟩ = some (.slice A n c) := hX.cell 1
  have y1 : W.cell? ⟨q + 1, 1, none⟩ = some (.slice A' n' c') := hY.cell 1
  have HPE := Lib.hid (aspSame A A' n n' c c' path path' W hpW hpW' hn hs)
  obtain ⟨pe, hpe⟩ : ∃ pe, (path == path') = pe := ⟨_, rfl⟩
  rw [hpe] at HPE
  have HPB := Lib.hid hpe
  clear hpe
  go_wp2_with fail
  refine HPE.out.mono ?_
  rintro _ w5 ⟨rfl, b5⟩
  have b05 := btr bW b5 bW.size
  have hX5 := hX.below b5 hXl
  have hY5 := hY.below b5 hYl
  clear x1 y1
  have x9 : w5.cell? ⟨q, 9, none⟩ = some (.slice A1 n1 c1) := hX5.cell 9
  have y9 : w5.cell? ⟨q + 1, 9, none⟩ = some (.slice A1' n1' c1') := hY5.cell 9
  cases pe
  · skip
    have HG := Lib.hid (show sameAt (⟨o, path, nx, md, pf, at_, ha, gs, ga, comms, raws⟩ : At) (⟨o', path', nx', md', pf', at_', ha', gs', ga', comms', raws'⟩ : At) = false from sameAt_no (fun e => by injection e with e0 e1 e2 e3 e4 e5 e6 e7 e8 e9 e10; exact absurd HPB.out (by rw [e1]; simp)))
    go_wp2_with fail
    go_ret
    exact ⟨ret_b HG.out.symm, b05⟩
  have HPP := Lib.hid (show path = path' from beq_iff_eq.1 HPB.out)
  have HCE := Lib.hid (equalU A1 A1' n1 n1' c1 c1' comms comms' w5 _ _ (hcW.keep (Kp.call b5)).lt (hcW'.keep (Kp.call b5)).lt (by omega))
  obtain ⟨ce, hce⟩ : ∃ ce, (comms == comms') = ce := ⟨_, rfl⟩
  rw [hce] at HCE
  have HCB := Lib.hid hce
  clear hce
  go_wp2_with fail
  refine HCE.out.mono ?_
  rintro _ _ ⟨rfl, q6, rfl⟩
  have b6 := below_drewN (Below.refl w5.heap.size w5) q6
  obtain ⟨w6, hw6⟩ : ∃ W', w5.drewN q6 = W' := ⟨_, rfl⟩
  rw [hw6] at b6
  rw [hw6]
  clear hw6
  have b06 := btr b05 b6 b05.size
  have hX6 := hX5.below b6 hX5.lt
  have hY6 := hY5.below b6 hY5.lt
  clear x9 y9
  have x10 : w6.cell? ⟨q, 10, none⟩ = some (.slice A2 n2 c2) := hX6.cell 10
  have y10 : w6.cell? ⟨q + 1, 10, none⟩ = some (.slice A2' n2' c2') := hY6.cell 10
  cases ce
  · skip
    have HG := Lib.hid (show sameAt (⟨o, path, nx, md, pf, at_, ha, gs, ga, comms, raws⟩ : At) (⟨o', path', nx', md', pf', at_', ha', gs', ga', comms', raws'⟩ : At) = false from sameAt_no (fun e => by injection e with e0 e1 e2 e3 e4 e5 e6 e7 e8 e9 e10; exact absurd HCB.out (by rw [e9]; simp)))
    go_wp2_with fail
    go_ret
    exact ⟨ret_b HG.out.symm, b06⟩
  have HCC := Lib.hid (show comms = comms' from beq_iff_eq.1 HCB.out)
  have HRE := Lib.hid (equalFuncR A2 A2' n2 n2' c2 c2' raws raws' w6 ((hdW.keep rRaw_ok (Kp.call b5)).keep rRaw_ok (Kp.call b6)) ((hdW'.keep rRaw_ok (Kp.call b5)).keep rRaw_ok (Kp.call b6)) hn2 hr)
  obtain ⟨re, hre⟩ : ∃ re, (raws == raws') = re := ⟨_, rfl⟩
  rw [hre] at HRE
  have HRB := Lib.hid hre
  clear hre
  go_wp2_with fail
  refine HRE.out.mono ?_
  rintro _ w7 ⟨rfl, b7⟩
  have b07 := btr b06 b7 b06.size
  have hX7 := hX6.below b7 hX6.lt
  have hY7 := hY6.below b7 hY6.lt
  clear x10 y10
  have x0 : w7.cell? ⟨q, 0, none⟩ = some (.int .i64 o) := hX7.cell 0
  have y0 : w7.cell? ⟨q + 1, 0, none⟩ = some (.int .i64 o') := hY7.cell 0
  have x2 : w7.cell? ⟨q, 2, none⟩ = some (.int .u32 nx) := hX7.cell 2
  have y2 : w7.cell? ⟨q + 1, 2, none⟩ = some (.int .u32 nx') := hY7.cell 2
  have x3 : w7.cell? ⟨q, 3, none⟩ = some (.int .i64 md) := hX7.cell 3
  have y3 : w7.cell? ⟨q + 1, 3, none⟩ = some (.int .i64 md') := hY7.cell 3
  have x4 : w7.cell? ⟨q, 4, none⟩ = some (.int .i64 pf) := hX7.cell 4
  have y4 : w7.cell? ⟨q + 1, 4, none⟩ = some (.int .i64 pf') := hY7.cell 4
  have x5 : w7.cell? ⟨q, 5, none⟩ = some (.bool at_) := hX7.cell 5
  have y5 : w7.cell? ⟨q + 1, 5, none⟩ = some (.bool at_') := hY7.cell 5
  have x6 : w7.cell? ⟨q, 6, none⟩ = some (.bool ha) := hX7.cell 6
  have y6 : w7.cell? ⟨q + 1, 6, none⟩ = some (.bool ha') := hY7.cell 6
  have x7 : w7.cell? ⟨q, 7, none⟩ = some (.int .u32 gs) := hX7.cell 7
  have y7 : w7.cell? ⟨q + 1, 7, none⟩ = some (.int .u32 gs') := hY7.cell 7
  have x8 : w7.cell? ⟨q, 8, none⟩ = some (.int .u32 ga) := hX7.cell 8
  have y8 : w7.cell? ⟨q + 1, 8, none⟩ = some (.int .u32 ga') := hY7.cell 8
  cases re
  · skip
    have HG := Lib.hid (show sameAt (⟨o, path, nx, md, pf, at_, ha, gs, ga, comms, raws⟩ : At) (⟨o', path', nx', md', pf', at_', ha', gs', ga', comms', raws'⟩ : At) = false from sameAt_no (fun e => by injection e with e0 e1 e2 e3 e4 e5 e6 e7 e8 e9 e10; exact absurd HRB.out (by rw [e10]; simp)))
    go_wp2_with fail
    go_ret
    exact ⟨ret_b HG.out.symm, b07⟩
  have HRR := Lib.hid (show raws = raws' from beq_iff_eq.1 HRB.out)
  by_cases k0 : o = o'
  case neg =>
    have t0 : (o != o') = true := by simpa using k0
    have HG := Lib.hid (show sameAt (⟨o, path, nx, md, pf, at_, ha, gs, ga, comms, raws⟩ : At) (⟨o', path', nx', md', pf', at_', ha', gs', ga', comms', raws'⟩ : At) = false from sameAt_no (fun e => by injection e with e0 e1 e2 e3 e4 e5 e6 e7 e8 e9 e10; exact k0 e0))
    go_wp2_with fail
    go_ret
    exact ⟨ret_b HG.out.symm, b07⟩
  have t0 : (o != o') = false := by simpa using k0
  have K0 := Lib.hid k0
  clear k0
  by_cases k2 : nx = nx'
  case neg =>
    have t2 : (nx != nx') = true := by simpa using k2
    have HG := Lib.hid (show sameAt (⟨o, path, nx, md, pf, at_, ha, gs, ga, comms, raws⟩ : At) (⟨o', path', nx', md', pf', at_', ha', gs', ga', comms', raws'⟩ : At) = false from sameAt_no (fun e => by injection e with e0 e1 e2 e3 e4 e5 e6 e7 e8 e9 e10; exact k2 e2))
    go_wp2_with fail
    go_ret
    exact ⟨ret_b HG.out.symm, b07⟩
  have t2 : (nx != nx') = false := by simpa using k2
  have K2 := Lib.hid k2
  clear k2
  by_cases k3 : md = md'
  case neg =>
    have t3 : (md != md') = true := by simpa using k3
    have HG := Lib.hid (show sameAt (⟨o, path, nx, md, pf, at_, ha, gs, ga, comms, raws⟩ : At) (⟨o', path', nx', md', pf', at_', ha', gs', ga', comms', raws'⟩ : At) = false from sameAt_no (fun e => by injection e with e0 e1 e2 e3 e4 e5 e6 e7 e8 e9 e10; exact k3 e3))
    go_wp2_with fail
    go_ret
    exact ⟨ret_b HG.out.symm, b07⟩
  have t3 : (md != md') = false := by simpa using k3
  have K3 := Lib.hid k3
  clear k3
  by_cases k4 : pf = pf'
  case neg =>
    have t4 : (pf != pf') = true := by simpa using k4
    have HG := Lib.hid (show sameAt (⟨o, path, nx, md, pf, at_, ha, gs, ga, comms, raws⟩ : At) (⟨o', path', nx', md', pf', at_', ha', gs', ga', comms', raws'⟩ : At) = false from sameAt_no (fun e => by injection e with e0 e1 e2 e3 e4 e5 e6 e7 e8 e9 e10; exact k4 e4))
    go_wp2_with fail
    go_ret
    exact ⟨ret_b HG.out.symm, b07⟩
  have t4 : (pf != pf') = false := by simpa using k4
  have K4 := Lib.hid k4
  clear k4
  by_cases k5 : at_ = at_'
  case neg =>
    have t5 : (at_ == at_') = false := by simpa using k5
    have HG := Lib.hid (show sameAt (⟨o, path, nx, md, pf, at_, ha, gs, ga, comms, raws⟩ : At) (⟨o', path', nx', md', pf', at_', ha', gs', ga', comms', raws'⟩ : At) = false from sameAt_no (fun e => by injection e with e0 e1 e2 e3 e4 e5 e6 e7 e8 e9 e10; exact k5 e5))
    go_wp2_with fail
    go_ret
    exact ⟨ret_b HG.out.symm, b07⟩
  have t5 : (at_ == at_') = true := by simpa using k5
  have K5 := Lib.hid k5
  clear k5
  by_cases k6 : ha = ha'
  case neg =>
    have t6 : (ha == ha') = false := by simpa using k6
    have HG := Lib.hid (show sameAt (⟨o, path, nx, md, pf, at_, ha, gs, ga, comms, raws⟩ : At) (⟨o', path', nx', md', pf', at_', ha', gs', ga', comms', raws'⟩ : At) = false from sameAt_no (fun e => by injection e with e0 e1 e2 e3 e4 e5 e6 e7 e8 e9 e10; exact k6 e6))
    go_wp2_with fail
    go_ret
    exact ⟨ret_b HG.out.symm, b07⟩
  have t6 : (ha == ha') = true := by simpa using k6
  have K6 := Lib.hid k6
  clear k6
  by_cases k7 : gs = gs'
  case neg =>
    have t7 : (gs == gs') = false := by simpa using k7
    have HG := Lib.hid (show sameAt (⟨o, path, nx, md, pf, at_, ha, gs, ga, comms, raws⟩ : At) (⟨o', path', nx', md', pf', at_', ha', gs', ga', comms', raws'⟩ : At) = false from sameAt_no (fun e => by injection e with e0 e1 e2 e3 e4 e5 e6 e7 e8 e9 e10; exact k7 e7))
    go_wp2_with fail
    go_ret
    exact ⟨ret_b HG.out.symm, b07⟩
  have t7 : (gs == gs') = true := by simpa using k7
  have K7 := Lib.hid k7
  clear k7
  by_cases k8 : ga = ga'
  case neg =>
    have t8 : (ga == ga') = false := by simpa using k8
    have HG := Lib.hid (show sameAt (⟨o, path, nx, md, pf, at_, ha, gs, ga, comms, raws⟩ : At) (⟨o', path', nx', md', pf', at_', ha', gs', ga', comms', raws'⟩ : At) = false from sameAt_no (fun e => by injection e with e0 e1 e2 e3 e4 e5 e6 e7 e8 e9 e10; exact k8 e8))
    go_wp2_with fail
    go_ret
    exact ⟨ret_b HG.out.symm, b07⟩
  have t8 : (ga == ga') = true := by simpa using k8
  have K8 := Lib.hid k8
  clear k8
  have HG := Lib.hid (show sameAt (⟨o, path, nx, md, pf, at_, ha, gs, ga, comms, raws⟩ : At) (⟨o', path', nx', md', pf', at_', ha', gs', ga', comms', raws'⟩ : At) = true from sameAt_iff.2 (by rw [K0.out, HPP.out, K2.out, K3.out, K4.out, K5.out, K6.out, K7.out, K8.out, HCC.out, HRR.out]))
  go_wp2_with fail
  go_ret
  exact ⟨ret_b HG.out.symm, b07⟩
end Go.Proofs.YtlpkngjeihoknaaDoor
namespace Go.Proofs.YtlpkngjeihoknaaDoor
open Go.RowKit
set_option linter.unusedSimpArgs false
set_option linter.unusedVariables false
set_option maxHeartbeats 8000000 in
set_option maxRecDepth 100000 in
theorem refSame04 (o : Int) (A : Option Addr) (n c : Nat) (path : List Seg) (nx md pf : Int) (at_ ha : Bool) (gs ga : Int) (A1 : Option Addr) (n1 c1 : Nat) (comms : List Int) (A2 : Option Addr) (n2 c2 : Nat) (raws : List RawV) (o' : Int) (A' : Option Addr) (n' c' : Nat) (path' : List Seg) (nx' md' pf' : Int) (at_' ha' : Bool) (gs' ga' : Int) (A1' : Option Addr) (n1' c1' : Nat) (comms' : List Int) (A2' : Option Addr) (n2' c2' : Nat) (raws' : List RawV) (w : World) (hp : DL rSeg 2 w (Lo w) A n path) (hc : NF w (Lo w) A1 n1 comms) (hd : DL rRaw 3 w (Lo w) A2 n2 raws) (hp' : DL rSeg 2 w (Lo w) A' n' path') (hc' : NF w (Lo w) A1' n1' comms') (hd' : DL rRaw 3 w (Lo w) A2' n2' raws') (hn : n ≤ 100000) (hs : Hid (sumN path ≤ big32)) (hn1 : n1 ≤ 100000) (hn2 : n2 ≤ 100000) (hr : Hid (∀ x ∈ raws, x.2.2.length ≤ 100000)) :
    Calls Tryd.prog 54 #[.agg #[.int .i64 o, .slice A n c, .int .u32 nx, .int .i64 md, .int .i64 pf, .bool at_, .bool ha, .int .u32 gs, .int .u32 ga, .slice A1 n1 c1, .slice A2 n2 c2], .agg #[.int .i64 o', .slice A' n' c', .int .u32 nx', .int .i64 md', .int .i64 pf', .bool at_', .bool ha', .int .u32 gs', .int .u32 ga', .slice A1' n1' c1', .slice A2' n2' c2']] w fun en w' => en = .returned (.bool (sameAt (⟨o, path, nx, md, pf, at_, ha, gs, ga, comms, raws⟩ : At) (⟨o', path', nx', md', pf', at_', ha', gs', ga', comms', raws'⟩ : At))) ∧ Below w.heap.size w w' := by
  have HN := Lib.hid hd.len
  have HN' := Lib.hid hd'.len
  have HC := Lib.hid hc.1
  have HC' := Lib.hid hc'.1
  obtain ⟨W, hW, hX, hY, bW⟩ := boxes2 w #[.int .i64 o, .slice A n c, .int .u32 nx, .int .i64 md, .int .i64 pf, .bool at_, .bool ha, .int .u32 gs, .int .u32 ga, .slice A1 n1 c1, .slice A2 n2 c2] #[.int .i64 o', .slice A' n' c', .int .u32 nx', .int .i64 md', .int .i64 pf', .bool at_', .bool ha', .int .u32 gs', .int .u32 ga', .slice A1' n1' c1', .slice A2' n2' c2'] 54 54
  have hdW := hd.keep rRaw_ok (Kp.call bW)
  have hdW' := hd'.keep rRaw_ok (Kp.call bW)
  have hpW := hp.keep rSeg_ok (Kp.call bW)
  have hpW' := hp'.keep rSeg_ok (Kp.call bW)
  have hcW := hc.keep (Kp.call bW)
  have hcW' := hc'.keep (Kp.call bW)
  go_enter Tryd.func54, Tryd.ntmps54
  go_upto_region 1 with fail
  try rw [hW]
  clear hW
  have hXl := hX.lt
  have hYl := hY.lt
  obtain ⟨q, hq⟩ : ∃ q, w.heap.size = q := ⟨_, rfl⟩
  have HQ := Lib.hid hq
  rw [hq] at hX hY hXl hYl
  try rw [hq]
  clear hq hp hp' hc hc' hd hd'
  have x10 : W.cell? ⟨q, 10, none⟩ = some (.slice A2 n2 c2) := hX.cell 10
  have y10 : W.cell? ⟨q + 1, 10, none⟩ = some (.slice A2' n2' c2') := hY.cell 10
  by_cases hlen : n2 = n2'
  case neg =>
    have t0 : ((n2 : Int) != (n2' : Int)) = true := by simp; omega
    have HG := Lib.hid (show sameAt (⟨o, path, nx, md, pf, at_, ha, gs, ga, comms, raws⟩ : At) (⟨o', path', nx', md', pf', at_', ha', gs', ga', comms', raws'⟩ : At) = false from sameAt_no (fun e => by injection e with e0 e1 e2 e3 e4 e5 e6 e7 e8 e9 e10; exact hlen (by rw [HN.out, HN'.out, e10])))
    clear hlen
    go_wp2_with fail
    go_ret
    exact ⟨ret_b HG.out.symm, bW⟩
  subst hlen
  have t0 : ((n2 : Int) != (n2 : Int)) = false := by simp
  have x1 : W.cell? ⟨q, 1, none⟩ = some (.slice A n c) := hX.cell 1
  have y1 : W.cell? ⟨q + 1, 1, none⟩ = some (.slice A' n' c') := hY.cell 1
  have HPE := Lib.hid (refSame03 A A' n n' c c' path path' W hpW hpW' hn hs)
  obtain ⟨pe, hpe⟩ : ∃ pe, (path == path') = pe := ⟨_, rfl⟩
  rw [hpe] at HPE
  have HPB := Lib.hid hpe
  clear hpe
  go_wp2_with fail
  refine HPE.out.mono ?_
  rintro _ w5 ⟨rfl, b5⟩
  have b05 := btr bW b5 bW.size
  have hX5 := hX.below b5 hXl
  have hY5 := hY.below b5 hYl
  clear x1 y1 x10 y10
  have x9 : w5.cell? ⟨q, 9, none⟩ = some (.slice A1 n1 c1) := hX5.cell 9
  have y9 : w5.cell? ⟨q + 1, 9, none⟩ = some (.slice A1' n1' c1') := hY5.cell 9
  cases pe
  · skip
    have HG := Lib.hid (show sameAt (⟨o, path, nx, md, pf, at_, ha, gs, ga, comms, raws⟩ : At) (⟨o', path', nx', md', pf', at_', ha', gs', ga', comms', raws'⟩ : At) = false from sameAt_no (fun e => by injection e with e0 e1 e2 e3 e4 e5 e6 e7 e8 e9 e10; exact absurd HPB.out (by rw [e1]; simp)))
    go_wp2_with fail
    go_ret
    exact ⟨ret_b HG.out.symm, b05⟩
  have HPP := Lib.hid (show path = path' from beq_iff_eq.1 HPB.out)
  have HCE := Lib.hid (refNums A1 A1' n1 n1' c1 c1' comms comms' w5 _ _ (hcW.keep (Kp.call b5)).lt (hcW'.keep (Kp.call b5)).lt (by omega))
  obtain ⟨ce, hce⟩ : ∃ ce, (comms == comms') = ce := ⟨_, rfl⟩
  rw [hce] at HCE
  have HCB := Lib.hid hce
  clear hce
  go_wp2_with fail
  refine HCE.out.mono ?_
  rintro _ _ ⟨rfl, q6, rfl⟩
  have b6 := below_drewN (Below.refl w5.heap.size w5) q6
  obtain ⟨w6, hw6⟩ : ∃ W', w5.drewN q6 = W' := ⟨_, rfl⟩
  rw [hw6] at b6
  rw [hw6]
  clear hw6
  have b06 := btr b05 b6 b05.size
  have hX6 := hX5.below b6 hX5.lt
  have hY6 := hY5.below b6 hY5.lt
  clear x9 y9
  have x10 : w6.cell? ⟨q, 10, none⟩ = some (.slice A2 n2 c2) := hX6.cell 10
  have y10 : w6.cell? ⟨q + 1, 10, none⟩ = some (.slice A2' n2 c2') := hY6.cell 10
  have x0 : w6.cell? ⟨q, 0, none⟩ = some (.int .i64 o) := hX6.cell 0
  have y0 : w6.cell? ⟨q + 1, 0, none⟩ = some (.int .i64 o') := hY6.cell 0
  have x2 : w6.cell? ⟨q, 2, none⟩ = some (.int .u32 nx) := hX6.cell 2
  have y2 : w6.cell? ⟨q + 1, 2, none⟩ = some (.int .u32 nx') := hY6.cell 2
  have x3 : w6.cell? ⟨q, 3, none⟩ = some (.int .i64 md) := hX6.cell 3
  have y3 : w6.cell? ⟨q + 1, 3, none⟩ = some (.int .i64 md') := hY6.cell 3
  have x4 : w6.cell? ⟨q, 4, none⟩ = some (.int .i64 pf) := hX6.cell 4
  have y4 : w6.cell? ⟨q + 1, 4, none⟩ = some (.int .i64 pf') := hY6.cell 4
  have x5 : w6.cell? ⟨q, 5, none⟩ = some (.bool at_) := hX6.cell 5
  have y5 : w6.cell? ⟨q + 1, 5, none⟩ = some (.bool at_') := hY6.cell 5
  have x6 : w6.cell? ⟨q, 6, none⟩ = some (.bool ha) := hX6.cell 6
  have y6 : w6.cell? ⟨q + 1, 6, none⟩ = some (.bool ha') := hY6.cell 6
  have x7 : w6.cell? ⟨q, 7, none⟩ = some (.int .u32 gs) := hX6.cell 7
  have y7 : w6.cell? ⟨q + 1, 7, none⟩ = some (.int .u32 gs') := hY6.cell 7
  have x8 : w6.cell? ⟨q, 8, none⟩ = some (.int .u32 ga) := hX6.cell 8
  have y8 : w6.cell? ⟨q + 1, 8, none⟩ = some (.int .u32 ga') := hY6.cell 8
  cases ce
  · skip
    have HG := Lib.hid (show sameAt (⟨o, path, nx, md, pf, at_, ha, gs, ga, comms, raws⟩ : At) (⟨o', path', nx', md', pf', at_', ha', gs', ga', comms', raws'⟩ : At) = false from sameAt_no (fun e => by injection e with e0 e1 e2 e3 e4 e5 e6 e7 e8 e9 e10; exact absurd HCB.out (by rw [e9]; simp)))
    go_wp2_with fail
    go_ret
    exact ⟨ret_b HG.out.symm, b06⟩
  have HCC := Lib.hid (show comms = comms' from beq_iff_eq.1 HCB.out)
  have hd6 := (hdW.keep rRaw_ok (Kp.call b5)).keep rRaw_ok (Kp.call b6)
  have hd6' := (hdW'.keep rRaw_ok (Kp.call b5)).keep rRaw_ok (Kp.call b6)
  have HB6 := Lib.hid b06
  clear b06 b6 b5 b05
  go_wp2_with fail
  go_loopw [5] (fun i wr => ∃ j q : Nat, j ≤ n2 ∧ i = .int .i64 j ∧ wr = w6.drewN q ∧ Hid (∀ i, i < j → raws[i]? = raws'[i]?)) (fun i _ => n2 - (intOf i).toNat)
  case atStart => exact ⟨0, 0, by omega, rfl, rfl, Lib.hid fun i h => by omega⟩
  case round =>
    obtain ⟨j, q', hj, rfl, rfl, HA⟩ := hrel
    by_cases hlt : j < n2
    case neg =>
      have e2 : decide ((j : Int) < n2) = false := decide_eq_false (by omega)
      have HRR := Lib.hid (show raws = raws' from list_eq HN.out HN'.out (fun i hi => HA.out i (by omega)))
      have HBQ := Lib.hid (below_drewN HB6.out q')
      by_cases k0 : o = o'
      case neg =>
        have t0 : (o != o') = true := by simpa using k0
        have HG := Lib.hid (show sameAt (⟨o, path, nx, md, pf, at_, ha, gs, ga, comms, raws⟩ : At) (⟨o', path', nx', md', pf', at_', ha', gs', ga', comms', raws'⟩ : At) = false from sameAt_no (fun e => by injection e with e0 e1 e2 e3 e4 e5 e6 e7 e8 e9 e10; exact k0 e0))
        go_wp2_with fail
        go_ret
        exact ⟨ret_b HG.out.symm, HBQ.out⟩
      have t0 : (o != o') = false := by simpa using k0
      have K0 := Lib.hid k0
      clear k0
      by_cases k2 : nx = nx'
      case neg =>
        have t2 : (nx != nx') = true := by simpa using k2
        have HG := Lib.hid (show sameAt (⟨o, path, nx, md, pf, at_, ha, gs, ga, comms, raws⟩ : At) (⟨o', path', nx', md', pf', at_', ha', gs', ga', comms', raws'⟩ : At) = false from sameAt_no (fun e => by injection e with e0 e1 e2 e3 e4 e5 e6 e7 e8 e9 e10; exact k2 e2))
        go_wp2_with fail
        go_ret
        exact ⟨ret_b HG.out.symm, HBQ.out⟩
      have t2 : (nx != nx') = false := by simpa using k2
      have K2 := Lib.hid k2
      clear k2
      by_cases k3 : md = md'
      case neg =>
        have t3 : (md != md') = true := by simpa using k3
        have HG := Lib.hid (show sameAt (⟨o, path, nx, md, pf, at_, ha, gs, ga, comms, raws⟩ : At) (⟨o', path', nx', md', pf', at_', ha', gs', ga', comms', raws'⟩ : At) = false from sameAt_no (fun e => by injection e with e0 e1 e2 e3 e4 e5 e6 e7 e8 e9 e10; exact k3 e3))
        go_wp2_with fail
        go_ret
        exact ⟨ret_b HG.out.symm, HBQ.out⟩
      have t3 : (md != md') = false := by simpa using k3
      have K3 := Lib.hid k3
      clear k3
      by_cases k4 : pf = pf'
      case neg =>
        have t4 : (pf != pf') = true := by simpa using k4
        have HG := Lib.hid (show sameAt (⟨o, path, nx, md, pf, at_, ha, gs, ga, comms, raws⟩ : At) (⟨o', path', nx', md', pf', at_', ha', gs', ga', comms', raws'⟩ : At) = false from sameAt_no (fun e => by injection e with e0 e1 e2 e3 e4 e5 e6 e7 e8 e9 e10; exact k4 e4))
        go_wp2_with fail
        go_ret
        exact ⟨ret_b HG.out.symm, HBQ.out⟩
      have t4 : (pf != pf') = false := by simpa using k4
      have K4 := Lib.hid k4
      clear k4
      by_cases k5 : at_ = at_'
      case neg =>
        have t5 : (at_ == at_') = false := by simpa using k5
        have HG := Lib.hid (show sameAt (⟨o, path, nx, md, pf, at_, ha, gs, ga, comms, raws⟩ : At) (⟨o', path', nx', md', pf', at_', ha', gs', ga', comms', raws'⟩ : At) = false from sameAt_no (fun e => by injection e with e0 e1 e2 e3 e4 e5 e6 e7 e8 e9 e10; exact k5 e5))
        go_wp2_with fail
        go_ret
        exact ⟨ret_b HG.out.symm, HBQ.out⟩
      have t5 : (at_ == at_') = true := by simpa using k5
      have K5 := Lib.hid k5
      clear k5
      by_cases k6 : ha = ha'
      case neg =>
        have t6 : (ha == ha') = false := by simpa using k6
        have HG := Lib.hid (show sameAt (⟨o, path, nx, md, pf, at_, ha, gs, ga, comms, raws⟩ : At) (⟨o', path', nx', md', pf', at_', ha', gs', ga', comms', raws'⟩ : At) = false from sameAt_no (fun e => by injection e with e0 e1 e2 e3 e4 e5 e6 e7 e8 e9 e10; exact k6 e6))
        go_wp2_with fail
        go_ret
        exact ⟨ret_b HG.out.symm, HBQ.out⟩
      have t6 : (ha == ha') = true := by simpa using k6
      have K6 := Lib.hid k6
      clear k6
      by_cases k7 : gs = gs'
      case neg =>
        have t7 : (gs == gs') = false := by simpa using k7
        have HG := Lib.hid (show sameAt (⟨o, path, nx, md, pf, at_, ha, gs, ga, comms, raws⟩ : At) (⟨o', path', nx', md', pf', at_', ha', gs', ga', comms', raws'⟩ : At) = false from sameAt_no (fun e => by injection e with e0 e1 e2 e3 e4 e5 e6 e7 e8 e9 e10; exact k7 e7))
        go_wp2_with fail
        go_ret
        exact ⟨ret_b HG.out.symm, HBQ.out⟩
      have t7 : (gs == gs') = true := by simpa using k7
      have K7 := Lib.hid k7
      clear k7
      by_cases k8 : ga = ga'
      case neg =>
        have t8 : (ga == ga') = false := by simpa using k8
        have HG := Lib.hid (show sameAt (⟨o, path, nx, md, pf, at_, ha, gs, ga, comms, raws⟩ : At) (⟨o', path', nx', md', pf', at_', ha', gs', ga', comms', raws'⟩ : At) = false from sameAt_no (fun e => by injection e with e0 e1 e2 e3 e4 e5 e6 e7 e8 e9 e10; exact k8 e8))
        go_wp2_with fail
        go_ret
        exact ⟨ret_b HG.out.symm, HBQ.out⟩
      have t8 : (ga == ga') = true := by simpa using k8
      have K8 := Lib.hid k8
      clear k8
      have HG := Lib.hid (show sameAt (⟨o, path, nx, md, pf, at_, ha, gs, ga, comms, raws⟩ : At) (⟨o', path', nx', md', pf', at_', ha', gs', ga', comms', raws'⟩ : At) = true from sameAt_iff.2 (by rw [K0.out, HPP.out, K2.out, K3.out, K4.out, K5.out, K6.out, K7.out, K8.out, HCC.out, HRR.out]))
      go_wp2_with fail
      go_ret
      exact ⟨ret_b HG.out.symm, HBQ.out⟩
    have e2 : decide ((j : Int) < n2) = true := decide_eq_true (by omega)
    have hlti : (j : Int) < n2 := by omega
    obtain ⟨x, hx⟩ := getL HN.out hlt
    obtain ⟨y, hy⟩ := getL HN'.out hlt
    have HX := Lib.hid hx
    have HY := Lib.hid hy
    have HNL := Lib.hid (hr.out x (List.mem_of_getElem? hx))
    obtain ⟨b, off, B1, m1, d1, rfl, hbl, k0, k1, k2, hnf, _, _, _⟩ := hd6.rawAt hx
    obtain ⟨b', off', B2, m2, d2, rfl, hbl', r0, r1, r2, hnf', _, _, _⟩ := hd6'.rawAt hy
    have wj : IntKind.i64.wrap ((j : Int) + 1) = (j : Int) + 1 := IntWalk.i64_in _ ⟨by omega, by omega⟩
    have hj0 : (0 : Int) ≤ (j : Int) := by omega
    have ns1 : BS w6 w6.heap.size B1 m1 x.2.2 := hnf.lt
    have ns2 : BS w6 w6.heap.size B2 m2 y.2.2 := hnf'.lt
    have HC := fun v (hv : BS v w6.heap.size B1 m1 x.2.2) (hv' : BS v w6.heap.size B2 m2 y.2.2) => ref01Same B1 B2 m1 m2 d1 d2 x.2.2 y.2.2 v _ _ hv hv'
    have HBQ := Lib.hid (below_drewN HB6.out q')
    clear hx hy hnf hnf'
    obtain ⟨f, hf⟩ : ∃ f, x.1 = f := ⟨_, rfl⟩
    have HF1 := Lib.hid hf
    rw [hf] at k0
    obtain ⟨f', hf'⟩ : ∃ f, y.1 = f := ⟨_, rfl⟩
    have HF2 := Lib.hid hf'
    rw [hf'] at r0
    obtain ⟨t, ht⟩ : ∃ t, x.2.1 = t := ⟨_, rfl⟩
    have HT1 := Lib.hid ht
    rw [ht] at k1
    obtain ⟨t', ht'⟩ : ∃ t, y.2.1 = t := ⟨_, rfl⟩
    have HT2 := Lib.hid ht'
    rw [ht'] at r1
    clear hf hf' ht ht'
    by_cases hff : f = f'
    case neg =>
      have tk : (f != f') = true := by simpa using hff
      have HG := Lib.hid (raw_ne HX.out HY.out (by rw [HF1.out, HF2.out, beq_eq_false_iff_ne.2 hff, Bool.false_and]))
      clear hff HC
      have HG2 := Lib.hid (show sameAt (⟨o, path, nx, md, pf, at_, ha, gs, ga, comms, raws⟩ : At) (⟨o', path', nx', md', pf', at_', ha', gs', ga', comms', raws'⟩ : At) = false from sameAt_no (fun e => by injection e with e0 e1 e2 e3 e4 e5 e6 e7 e8 e9 e10; have er : (raws == raws') = true := beq_iff_eq.2 e10; rw [HG.out] at er; cases er))
      go_wp2_with fail
      go_quiet (fail)
      go_wp2_with fail
      go_ret
      exact ⟨ret_b HG2.out.symm, below_drewN HBQ.out _⟩
    subst hff
    have tk : (f != f) = false := by simp
    by_cases htt : t = t'
    case neg =>
      have tt : (t != t') = true := by simpa using htt
      have HG := Lib.hid (raw_ne HX.out HY.out (by rw [HT1.out, HT2.out, beq_eq_false_iff_ne.2 htt, Bool.false_and, Bool.and_false]))
      clear htt HC
      have HG2 := Lib.hid (show sameAt (⟨o, path, nx, md, pf, at_, ha, gs, ga, comms, raws⟩ : At) (⟨o', path', nx', md', pf', at_', ha', gs', ga', comms', raws'⟩ : At) = false from sameAt_no (fun e => by injection e with e0 e1 e2 e3 e4 e5 e6 e7 e8 e9 e10; have er : (raws == raws') = true := beq_iff_eq.2 e10; rw [HG.out] at er; cases er))
      go_wp2_with fail
      go_quiet (fail)
      go_wp2_with fail
      go_ret
      exact ⟨ret_b HG2.out.symm, below_drewN HBQ.out _⟩
    subst htt
    have tt : (t != t) = false := by simp
    cases hdd : (x.2.2 == y.2.2)
    · have HG := Lib.hid (raw_ne HX.out HY.out (by rw [hdd, Bool.and_false, Bool.and_false]))
      rw [hdd] at HC
      have HC' := Lib.hid HC
      clear HC hdd
      have HG2 := Lib.hid (show sameAt (⟨o, path, nx, md, pf, at_, ha, gs, ga, comms, raws⟩ : At) (⟨o', path', nx', md', pf', at_', ha', gs', ga', comms', raws'⟩ : At) = false from sameAt_no (fun e => by injection e with e0 e1 e2 e3 e4 e5 e6 e7 e8 e9 e10; have er : (raws == raws') = true := beq_iff_eq.2 e10; rw [HG.out] at er; cases er))
      go_wp2_with fail
      go_quiet ((go_at_call 39; first | exact quiet_left (HC'.out _ ns1 ns2) | exact quiet_add_left (HC'.out _ ns1 ns2)))
      go_wp2_with fail
      go_ret
      exact ⟨ret_b HG2.out.symm, below_drewN HBQ.out _⟩
    · have HS := Lib.hid (raw_step HA.out HX.out HY.out (by rw [HF1.out, HF2.out, HT1.out, HT2.out, hdd, beq_self_eq_true, beq_self_eq_true]; rfl))
      rw [hdd] at HC
      have HC' := Lib.hid HC
      clear HC hdd
      go_wp2_with fail
      go_quiet ((go_at_call 39; first | exact quiet_left (HC'.out _ ns1 ns2) | exact quiet_add_left (HC'.out _ ns1 ns2)))
      go_wp2_with fail
      go_roundw
      case rel => exact ⟨j + 1, q' + nq, by omega, by go_num, rfl, HS⟩
      case measure => simp [intOf]; omega
end Go.Proofs.YtlpkngjeihoknaaDoor
