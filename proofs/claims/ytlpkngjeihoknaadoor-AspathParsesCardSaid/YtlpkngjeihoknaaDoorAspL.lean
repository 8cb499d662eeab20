/- Walks of layer 3 (paths): whether two are the same; the document's. No conditions but sizes. -/
import Derived.Test.YtlpkngjeihoknaaDoorProg
import Derived.WalkKit
import Derived.WalkSpells
import Derived.WalkLawsBesides
import Derived.Outline
import Derived.Deep.QuietTactic
import Derived.BigQuiet
import Derived.Handy
import Derived.Lib.Hide
import Derived.Deep.DeepCutAuto
import Derived.Deep.CutBlock
import Derived.Test.YtlpkngjeihoknaaDoorAspC
namespace Go.Proofs.YtlpkngjeihoknaaDoor
open Go.RowKit
set_option linter.unusedSimpArgs false
set_option linter.unusedVariables false
theorem quietN {P : Program} {f : FuncId} {args : Array Value} {w : World} {a n : Nat} {v : Value}
    (h : Calls P f args (w.drewN (a + n)) fun e w' => e = .returned v ∧ ∃ q, w' = (w.drewN (a + n)).drewN q) :
    Calls P f args (w.drewN (a + n)) fun e w'' => e = .returned v ∧ ∃ m, w'' = w.drewN (a + m) :=
  h.mono fun _ _ ⟨he, q, hq⟩ => ⟨he, n + q, by rw [hq, World.drewN_drewN]; congr 1; omega⟩
theorem quietN0 {P : Program} {f : FuncId} {args : Array Value} {w : World} {n : Nat} {v : Value}
    (h : Calls P f args (w.drewN n) fun e w' => e = .returned v ∧ ∃ q, w' = (w.drewN n).drewN q) :
    Calls P f args (w.drewN n) fun e w'' => e = .returned v ∧ ∃ m, w'' = w.drewN m :=
  h.mono fun _ _ ⟨he, q, hq⟩ => ⟨he, n + q, by rw [hq, World.drewN_drewN]⟩
set_option maxHeartbeats 1000000 in
set_option maxRecDepth 100000 in
theorem equalU (A A' : Option Addr) (n n' c c' : Nat) (l l' : List Int) (w : World) (B B' : Nat) (h : NS .u32 w B A n l) (h' : NS .u32 w B' A' n' l') (hbd : n ≤ 35184372088832) :
    Calls Tryd.prog 68 #[.slice A n c, .slice A' n' c'] w fun en w' => en = .returned (.bool (l == l')) ∧ ∃ q, w' = w.drewN q := by
  have hn : n = l.length := h.1
  have hn' : n' = l'.length := h'.1
  by_cases hlen : n = n'
  · have HN := Lib.hid hn
    have HN' := Lib.hid hn'
    subst hlen
    clear hn hn'
    go_enter Tryd.func68, Tryd.ntmps68
    go_wp2_with fail
    go_loopw [13] (fun i wr => ∃ j q : Nat, j ≤ n ∧ i = .int .i64 j ∧ wr = w.drewN q ∧ Hid (l.take j = l'.take j)) (fun i _ => n - (intOf i).toNat)
    case atStart => exact ⟨0, 0, by omega, rfl, rfl, Lib.hid rfl⟩
    case round =>
      obtain ⟨j, q, hj, rfl, rfl, ht⟩ := hrel
      by_cases hlt : j < n
      · obtain ⟨b, off, rfl, hbw, hcw⟩ := h.form hlt
        obtain ⟨b', off', rfl, hbw', hcw'⟩ := h'.form hlt
        have hlti : (j : Int) < n := by omega
        have hd : decide ((j : Int) < n) = true := decide_eq_true hlti
        obtain ⟨x, hx⟩ : ∃ x, l[j]?.getD 0 = x := ⟨_, rfl⟩
        obtain ⟨y, hy⟩ : ∃ y, l'[j]?.getD 0 = y := ⟨_, rfl⟩
        rw [hx] at hcw
        rw [hy] at hcw'
        have HXX := Lib.hid hx
        have HYY := Lib.hid hy
        clear hx hy
        by_cases e : x = y
        · subst e
          go_wp2_with fail
          go_quiet (fail)
          go_wp2_with fail
          go_roundw
          case rel =>
            refine ⟨j + 1, q + nq, by omega, by go_num, rfl, Lib.hid ?_⟩
            exact take_succ_eq ht.out (by have := HN.out; omega) (by have := HN'.out; omega) (HXX.out.trans HYY.out.symm)
          case measure => simp [intOf]; omega
        · have ht2 : (x != y) = true := by simpa using e
          go_wp2_with fail
          go_quiet (fail)
          go_wp2_with fail
          go_ret
          refine ⟨ret_b ?_, q + nq, World.drewN_drewN _ _ _⟩
          refine (beq_eq_false_iff_ne.2 fun hll => e ?_).symm
          rw [← HXX.out, ← HYY.out, hll]
      · have hj' : j = n := by omega
        go_wp2_with fail
        go_ret
        refine ⟨ret_b ?_, q, rfl⟩
        subst hj'
        have e := ht.out
        rw [List.take_of_length_le (by have := HN.out; omega), List.take_of_length_le (by have := HN'.out; omega)] at e
        rw [e, beq_self_eq_true]
  · have ht : ((n : Int) != n') = true := by simpa using (by omega : ¬ (n : Int) = n')
    have hf : (l == l') = false := beq_eq_false_iff_ne.2 fun e => hlen (by rw [hn, hn', e])
    go_enter Tryd.func68, Tryd.ntmps68
    go_wp2_with fail
    go_ret
    exact ⟨ret_b hf.symm, 0, rfl⟩
set_option maxHeartbeats 2000000 in
set_option maxRecDepth 100000 in
theorem sameSeg (k k' : Int) (A A' : Option Addr) (n n' c c' : Nat) (zs zs' : List Int) (w : World) (h : NS .u32 w w.heap.size A n zs) (h' : NS .u32 w w.heap.size A' n' zs') (hbd : n ≤ 35184372088832) :
    Calls Tryd.prog 67 #[.agg #[.int .i64 k, .slice A n c], .agg #[.int .i64 k', .slice A' n' c']] w fun e w' => e = .returned (.bool (k == k' && zs == zs')) ∧ Below w.heap.size w w' := by
  obtain ⟨W, hW, hX, hY, b0⟩ := boxes2 w #[.int .i64 k, .slice A n c] #[.int .i64 k', .slice A' n' c'] 73 73
  have x0 := hX.cell 0
  have x1 := hX.cell 1
  have y0 := hY.cell 0
  have y1 := hY.cell 1
  have ns := h.below b0
  have ns' := h'.below b0
  by_cases hk : k = k'
  · have t1 : (k == k') = true := by simpa using hk
    have HT := Lib.hid t1
    clear hk
    go_enter Tryd.func67, Tryd.ntmps67
    go_upto_region 1 with fail
    try rw [hW]
    clear hW
    go_wp2_with fail
    refine (equalU A A' n n' c c' zs zs' _ _ _ ns ns' hbd).mono ?_
    rintro _ _ ⟨rfl, q, rfl⟩
    go_wp2_with fail
    go_ret
    exact ⟨by rw [HT.out]; rfl, below_drewN b0 q⟩
  · have t1 : (k == k') = false := by simpa using hk
    have HT := Lib.hid t1
    clear hk
    go_enter Tryd.func67, Tryd.ntmps67
    go_upto_region 1 with fail
    try rw [hW]
    clear hW
    go_wp2_with fail
    go_ret
    exact ⟨by rw [HT.out]; rfl, b0⟩
theorem list_eq {α : Type} {l l' : List α} {n : Nat} (h : n = l.length) (h' : n = l'.length) (ha : ∀ i, i < n → l[i]? = l'[i]?) : l = l' :=
  List.ext_getElem? fun t => by
    rcases Nat.lt_or_ge t n with h1 | h1
    · exact ha t h1
    · rw [List.getElem?_eq_none (by omega), List.getElem?_eq_none (by omega)]
theorem seg_ne {x y : Seg} {l l' : List Seg} {j : Nat} (hx : l[j]? = some x) (hy : l'[j]? = some y) (h : (x.1 == y.1 && x.2 == y.2) = false) : (l == l') = false := by
  refine beq_eq_false_iff_ne.2 fun e => ?_
  rw [e, hy] at hx
  injection hx with hx
  subst hx
  simp at h
theorem seg_step {x y : Seg} {l l' : List Seg} {j : Nat} (ha : ∀ i, i < j → l[i]? = l'[i]?) (hx : l[j]? = some x) (hy : l'[j]? = some y) (h : (x.1 == y.1 && x.2 == y.2) = true) : ∀ i, i < j + 1 → l[i]? = l'[i]? := by
  intro i hi
  rcases Nat.lt_or_ge i j with h1 | h1
  · exact ha i h1
  · rw [show i = j by omega, hx, hy]
    simp only [Bool.and_eq_true, beq_iff_eq] at h
    congr 1
    exact Prod.ext h.1 h.2
set_option maxHeartbeats 4000000 in
set_option maxRecDepth 100000 in
theorem equalFuncS (A A' : Option Addr) (n n' c c' : Nat) (l l' : List Seg) (w : World) (hd : DL rSeg 2 w (Lo w) A n l) (hd' : DL rSeg 2 w (Lo w) A' n' l') (hn : n ≤ 100000) (hs : Hid (sumN l ≤ big32)) :
    Calls Tryd.prog 66 #[.slice A n c, .slice A' n' c', .func (.func 67) #[] #[]] w fun e w' => e = .returned (.bool (l == l')) ∧ Below w.heap.size w w' := by
  have HN := Lib.hid hd.len
  have HN' := Lib.hid hd'.len
  by_cases hlen : n = n'
  case neg =>
    have ht : ((n : Int) != n') = true := by simpa using (by omega : ¬ (n : Int) = n')
    have HF := Lib.hid (show (l == l') = false from beq_eq_false_iff_ne.2 fun e => hlen (by rw [HN.out, HN'.out, e]))
    clear hlen
    go_enter Tryd.func66, Tryd.ntmps66
    go_wp2_with fail
    go_ret
    exact ⟨ret_b HF.out.symm, Below.refl _ _⟩
  subst hlen
  have ht : ((n : Int) != n) = false := by simp
  go_enter Tryd.func66, Tryd.ntmps66
  go_wp2_with fail
  go_loopw [17] (fun i wr => ∃ j : Nat, j ≤ n ∧ i = .int .i64 j ∧ Hid (∀ i, i < j → l[i]? = l'[i]?) ∧ Below w.heap.size w wr) (fun i _ => n - (intOf i).toNat)
  case atStart => exact ⟨0, by omega, rfl, Lib.hid fun i h => by omega, Below.refl _ _⟩
  case round =>
    obtain ⟨j, hj, rfl, HA, hb⟩ := hrel
    by_cases hlt : j < n
    case neg =>
      have e2 : decide ((j : Int) < n) = false := decide_eq_false (by omega)
      have HF := Lib.hid (show (l == l') = true by
        have e := list_eq HN.out HN'.out (fun i hi => HA.out i (by omega))
        rw [e, beq_self_eq_true])
      go_wp2_with fail
      go_ret
      exact ⟨ret_b HF.out.symm, hb⟩
    have e2 : decide ((j : Int) < n) = true := decide_eq_true (by omega)
    have hlti : (j : Int) < n := by omega
    obtain ⟨x, hx⟩ := getS HN.out hlt
    obtain ⟨y, hy⟩ := getS HN'.out hlt
    have HX := Lib.hid hx
    have HY := Lib.hid hy
    have HNL := Lib.hid (show x.2.length ≤ 35184372088832 by have h1 := sumN_at hx; have h2 := hs.out; unfold big32 at h2; omega)
    obtain ⟨b, off, A1, n1, c1, rfl, hbl, k0w, k1w, hnf, hnc'⟩ := hd.segAt hx
    obtain ⟨b', off', A2, n2, c2, rfl, hbl', q0w, q1w, hnf', hnc2⟩ := hd'.segAt hy
    have hbl : b < w.heap.size := hbl
    have hbl' : b' < w.heap.size := hbl'
    have wj : IntKind.i64.wrap ((j : Int) + 1) = (j : Int) + 1 := IntWalk.i64_in _ ⟨by omega, by omega⟩
    have k0 := (hb.cell (p := ⟨b, off + j * 2, none⟩) hbl).trans k0w
    have k1 := (hb.cell (p := ⟨b, off + j * 2 + 1, none⟩) hbl).trans k1w
    have bX := hb.alloc hb.size (.cells #[.int .i64 x.1, .slice A1 n1 c1] 73)
    have bXY := bX.alloc bX.size (.cells #[.int .i64 y.1, .slice A2 n2 c2] 73)
    have q0 := (bX.cell (p := ⟨b', off' + j * 2, none⟩) hbl').trans q0w
    have q1 := (bX.cell (p := ⟨b', off' + j * 2 + 1, none⟩) hbl').trans q1w
    have hX := (Blk.new wr 73 #[.int .i64 x.1, .slice A1 n1 c1]).alloc (.cells #[.int .i64 y.1, .slice A2 n2 c2] 73)
    have hY := Blk.new (wr.alloc (.cells #[.int .i64 x.1, .slice A1 n1 c1] 73)) 73 #[.int .i64 y.1, .slice A2 n2 c2]
    rw [show (wr.alloc (.cells #[.int .i64 x.1, .slice A1 n1 c1] 73)).heap.size = wr.heap.size + 1 by simp] at hY
    have x0 := hX.cell 0
    have x1 := hX.cell 1
    have y0 := hY.cell 0
    have y1 := hY.cell 1
    have ns := (hnf.lt.below bXY).more bXY.size
    have ns' := (hnf'.lt.below bXY).more bXY.size
    have hl1 : n1 ≤ 35184372088832 := by have := hnf.1; have := HNL.out; omega
    have HL1 := Lib.hid hl1
    clear hl1 hx hy hnf hnf' k0w k1w q0w q1w
    obtain ⟨r, hr⟩ : ∃ r, (x.1 == y.1 && x.2 == y.2) = r := ⟨_, rfl⟩
    have HR := Lib.hid hr
    have HC := sameSeg x.1 y.1 A1 A2 n1 n2 c1 c2 x.2 y.2 _ ns ns' HL1.out
    rw [hr] at HC
    have HCC := Lib.hid HC
    clear hr HC
    go_wp2_with fail
    refine HCC.out.mono ?_
    rintro _ w2 ⟨rfl, b2⟩
    have b02 := btr bXY b2 bXY.size
    cases r
    · have HF := Lib.hid (seg_ne HX.out HY.out HR.out)
      go_wp2_with fail
      go_ret
      exact ⟨ret_b HF.out.symm, b02⟩
    · have HS := Lib.hid (seg_step HA.out HX.out HY.out HR.out)
      go_wp2_with fail
      go_roundw
      case rel => exact ⟨j + 1, by omega, by go_num, HS, b02⟩
      case measure => simp [intOf]; omega
set_option maxHeartbeats 2000000 in
set_option maxRecDepth 100000 in
theorem aspSame (A A' : Option Addr) (n n' c c' : Nat) (l l' : List Seg) (w : World) (hd : DL rSeg 2 w (Lo w) A n l) (hd' : DL rSeg 2 w (Lo w) A' n' l') (hn : n ≤ 100000) (hs : Hid (sumN l ≤ big32)) :
    Calls Tryd.prog 25 #[.slice A n c, .slice A' n' c'] w fun e w' => e = .returned (.bool (l == l')) ∧ Below w.heap.size w w' := by
  go_enter Tryd.func25, Tryd.ntmps25
  go_wp2_with fail
  refine (equalFuncS A A' n n' c c' l l' _ hd hd' hn hs).mono ?_
  rintro _ w1 ⟨rfl, b1⟩
  go_wp2_with fail
  go_ret
  exact ⟨rfl, b1⟩
set_option maxHeartbeats 4000000 in
set_option maxRecDepth 100000 in
theorem refSame03 (A A' : Option Addr) (n n' c c' : Nat) (l l' : List Seg) (w : World) (hd : DL rSeg 2 w (Lo w) A n l) (hd' : DL rSeg 2 w (Lo w) A' n' l') (hn : n ≤ 100000) (hs : Hid (sumN l ≤ big32)) :
    Calls Tryd.prog 22 #[.slice A n c, .slice A' n' c'] w fun e w' => e = .returned (.bool (l == l')) ∧ Below w.heap.size w w' := by
  have HN := Lib.hid hd.len
  have HN' := Lib.hid hd'.len
  by_cases hlen : n = n'
  case neg =>
    have ht : ((n : Int) != n') = true := by simpa using (by omega : ¬ (n : Int) = n')
    have HF := Lib.hid (show (l == l') = false from beq_eq_false_iff_ne.2 fun e => hlen (by rw [HN.out, HN'.out, e]))
    clear hlen
    go_enter Tryd.func22, Tryd.ntmps22
    go_wp2_with fail
    go_ret
    exact ⟨ret_b HF.out.symm, Below.refl _ _⟩
  subst hlen
  have ht : ((n : Int) != n) = false := by simp
  go_enter Tryd.func22, Tryd.ntmps22
  go_wp2_with fail
  go_loopw [5] (fun i wr => ∃ j q : Nat, j ≤ n ∧ i = .int .i64 j ∧ wr = w.drewN q ∧ Hid (∀ i, i < j → l[i]? = l'[i]?)) (fun i _ => n - (intOf i).toNat)
  case atStart => exact ⟨0, 0, by omega, rfl, rfl, Lib.hid fun i h => by omega⟩
  case round =>
    obtain ⟨j, q, hj, rfl, rfl, HA⟩ := hrel
    by_cases hlt : j < n
    case neg =>
      have e2 : decide ((j : Int) < n) = false := decide_eq_false (by omega)
      have HF := Lib.hid (show (l == l') = true by
        have e := list_eq HN.out HN'.out (fun i hi => HA.out i (by omega))
        rw [e, beq_self_eq_true])
      go_wp2_with fail
      go_ret
      exact ⟨ret_b HF.out.symm, below_drewN (Below.refl _ _) q⟩
    have e2 : decide ((j : Int) < n) = true := decide_eq_true (by omega)
    have hlti : (j : Int) < n := by omega
    obtain ⟨x, hx⟩ := getS HN.out hlt
    obtain ⟨y, hy⟩ := getS HN'.out hlt
    have HX := Lib.hid hx
    have HY := Lib.hid hy
    have HNL := Lib.hid (show x.2.length ≤ 35184372088832 by have h1 := sumN_at hx; have h2 := hs.out; unfold big32 at h2; omega)
    obtain ⟨b, off, A1, n1, c1, rfl, hbl, k0, k1, hnf, hnc'⟩ := hd.segAt hx
    obtain ⟨b', off', A2, n2, c2, rfl, hbl', q0, q1, hnf', hnc2⟩ := hd'.segAt hy
    have wj : IntKind.i64.wrap ((j : Int) + 1) = (j : Int) + 1 := IntWalk.i64_in _ ⟨by omega, by omega⟩
    have HL1 := Lib.hid (show n1 ≤ 35184372088832 by have := hnf.1; have := HNL.out; omega)
    clear hx hy
    obtain ⟨k, hk⟩ : ∃ k, x.1 = k := ⟨_, rfl⟩
    have HK := Lib.hid hk
    rw [hk] at k0
    obtain ⟨k', hk'⟩ : ∃ k', y.1 = k' := ⟨_, rfl⟩
    have HK' := Lib.hid hk'
    rw [hk'] at q0
    clear hk hk'
    by_cases hkk : k = k'
    case neg =>
      have tk : (k != k') = true := by simpa using hkk
      have HF := Lib.hid (seg_ne HX.out HY.out (by rw [HK.out, HK'.out, beq_eq_false_iff_ne.2 hkk, Bool.false_and]))
      clear hkk
      go_wp2_with fail
      go_quiet (fail)
      go_wp2_with fail
      go_ret
      exact ⟨ret_b HF.out.symm, below_drewN (below_drewN (Below.refl _ _) _) _⟩
    subst hkk
    have tk : (k != k) = false := by simp
    have HC := fun v (hv : NS .u32 v w.heap.size A1 n1 x.2) (hv' : NS .u32 v w.heap.size A2 n2 y.2) => refNums A1 A2 n1 n2 c1 c2 x.2 y.2 v _ _ hv hv' HL1.out
    have ns1 : NS .u32 w w.heap.size A1 n1 x.2 := hnf.lt
    have ns2 : NS .u32 w w.heap.size A2 n2 y.2 := hnf'.lt
    cases hdd : (x.2 == y.2)
    · have HF := Lib.hid (seg_ne HX.out HY.out (by rw [hdd, Bool.and_false]))
      rw [hdd] at HC
      have HC' := Lib.hid HC
      clear HC hdd hnf hnf'
      go_wp2_with fail
      go_quiet ((go_at_call 33; first | exact quietN0 (HC'.out _ ns1 ns2) | exact quietN (HC'.out _ ns1 ns2)))
      go_wp2_with fail
      go_ret
      exact ⟨ret_b HF.out.symm, below_drewN (below_drewN (Below.refl _ _) _) _⟩
    · have HS := Lib.hid (seg_step HA.out HX.out HY.out (by rw [HK.out, HK'.out, hdd, beq_self_eq_true]; rfl))
      rw [hdd] at HC
      have HC' := Lib.hid HC
      clear HC hdd hnf hnf'
      go_wp2_with fail
      go_quiet ((go_at_call 33; first | exact quietN0 (HC'.out _ ns1 ns2) | exact quietN (HC'.out _ ns1 ns2)))
      go_wp2_with fail
      go_roundw
      case rel => exact ⟨j + 1, q + nq, by omega, by go_num, rfl, HS⟩
      case measure => simp [intOf]; omega
end Go.Proofs.YtlpkngjeihoknaaDoor
