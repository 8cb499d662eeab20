/- Walks of layer 3 (paths): one's bytes; the document's. No conditions but sizes. -/
import Derived.Test.YtlpkngjeihoknaaDoorProg
import Derived.WalkKit
import Derived.WalkSpells
import Derived.WalkLawsBesides
import Derived.Outline
import Derived.Deep.QuietTactic
import Derived.BigQuiet
import Derived.Handy
import Derived.Lib.Hide
import Derived.Deep.DeepCutAuto
import Derived.Deep.CutBlock
import Derived.Test.YtlpkngjeihoknaaDoorOctet
import Derived.Test.YtlpkngjeihoknaaDoorRef01
import Derived.Test.YtlpkngjeihoknaaDoorAspC
namespace Go.Proofs.YtlpkngjeihoknaaDoor
open Go.RowKit
set_option linter.unusedSimpArgs false
set_option linter.unusedVariables false
/-- A number's bytes. -/
def asB (wide : Bool) (y : Int) : List UInt8 := if wide = true then b32 y else if 65535 < y then b16 23456 else b16 y
def segB (wide : Bool) (x : Seg) : List UInt8 := [ub (IntKind.u8.wrap x.1), ub (IntKind.u8.wrap (x.2.length : Int))] ++ x.2.flatMap (asB wide)
def putA (wide : Bool) (l : List Seg) : List UInt8 := l.flatMap (segB wide)
theorem asB_len (wide : Bool) (y : Int) : (asB wide y).length ≤ 4 := by
  unfold asB b32 b16
  repeat' split
  all_goals simp
theorem asB_flat (wide : Bool) (zs : List Int) : (zs.flatMap (asB wide)).length ≤ 4 * zs.length := by
  induction zs with
  | nil => simp
  | cons y zs ih => rw [List.flatMap_cons, List.length_append, List.length_cons]; have := asB_len wide y; omega
theorem putA_len (wide : Bool) (l : List Seg) : (putA wide l).length ≤ 2 * l.length + 4 * sumN l := by
  induction l with
  | nil => simp [putA]
  | cons x l ih =>
    have e : putA wide (x :: l) = segB wide x ++ putA wide l := by simp [putA]
    have := asB_flat wide x.2
    rw [e, List.length_append, List.length_cons, sumN]
    unfold segB
    simp only [List.length_append, List.length_cons, List.length_nil]
    omega
theorem putA_take {wide : Bool} {l : List Seg} {j : Nat} {x : Seg} (h : l[j]? = some x) : putA wide (l.take (j + 1)) = putA wide (l.take j) ++ [ub (IntKind.u8.wrap x.1), ub (IntKind.u8.wrap (x.2.length : Int))] ++ x.2.flatMap (asB wide) := by
  rw [take_snoc h]; simp [putA, segB]
theorem asB_take {wide : Bool} {zs : List Int} {q : Nat} {y : Int} (h : zs[q]? = some y) : (zs.take (q + 1)).flatMap (asB wide) = (zs.take q).flatMap (asB wide) ++ asB wide y := by
  rw [take_snoc h]; simp
theorem u8_bd (x : Int) : 0 ≤ IntKind.u8.wrap x ∧ IntKind.u8.wrap x ≤ 255 := by rw [IntKind.wrap_u8]; omega

set_option maxHeartbeats 8000000 in
set_option maxRecDepth 100000 in
theorem aspPut (A : Option Addr) (n c : Nat) (l : List Seg) (wide : Bool) (w : World) (hd : DL rSeg 2 w (Lo w) A n l) (hn : n ≤ 12) (hs : Hid (sumN l ≤ big32)) :
    Calls Tryd.prog 38 #[.slice A n c, .bool wide] w (RetB w 5 (putA wide l)) := by
  have HN := Lib.hid hd.len
  go_enter Tryd.func38, Tryd.ntmps38
  go_wp2_with fail
  go_loopw [5, 12] (fun s i wr => ∃ (j : Nat) (A1 : Option Addr) (n1 c1 : Nat), j ≤ n ∧ i = .int .i64 j ∧ s = .slice A1 n1 c1 ∧ OB wr 5 w.heap.size A1 n1 c1 (putA wide (l.take j)) ∧ Below w.heap.size w wr) (fun _ i _ => n - (intOf i).toNat)
  case atStart => exact ⟨0, none, 0, 0, by omega, rfl, rfl, OB.nil_, Below.refl _ _⟩
  case round =>
    obtain ⟨j, A1, n1, c1, hj, rfl, rfl, ho, hb⟩ := hrel
    by_cases hlt : j < n
    case neg =>
      have e2 : decide ((j : Int) < n) = false := decide_eq_false (by omega)
      have HF := Lib.hid (show putA wide (l.take j) = putA wide l by rw [List.take_of_length_le (by have := HN.out; omega)])
      go_wp2_with fail
      go_ret
      exact ⟨A1, n1, c1, rfl, by rw [← HF.out]; exact ho, hb⟩
    have e2 : decide ((j : Int) < n) = true := decide_eq_true (by omega)
    have hlti : (j : Int) < n := by omega
    obtain ⟨x, hx⟩ := getS HN.out hlt
    have HPT := Lib.hid (putA_take (wide := wide) hx)
    have HPL := Lib.hid (show (putA wide (l.take j)).length + 4 * x.2.length + 2 ≤ 140737488351300 by
      have h1 := putA_len wide (l.take j)
      have h2 := sumN_take hx
      have h3 := sumN_le l (j + 1)
      have h4 := hs.out
      unfold big32 at h4
      rw [List.length_take] at h1
      omega)
    obtain ⟨b, off, A', n', c', rfl, hbl, k0w, k1w, hnf, hnc'⟩ := hd.segAt hx
    have hbl : b < w.heap.size := hbl
    have k0 := (hb.cell (p := ⟨b, off + j * 2, none⟩) hbl).trans k0w
    have k1 := (hb.cell (p := ⟨b, off + j * 2 + 1, none⟩) hbl).trans k1w
    have HNX := Lib.hid hnf.1
    have wj : IntKind.i64.wrap ((j : Int) + 1) = (j : Int) + 1 := IntWalk.i64_in _ ⟨by omega, by omega⟩
    obtain ⟨k, hk⟩ : ∃ k, x.1 = k := ⟨_, rfl⟩
    have HK := Lib.hid hk
    rw [hk] at k0
    obtain ⟨zs, hzs⟩ : ∃ zs, x.2 = zs := ⟨_, rfl⟩
    have HZ := Lib.hid hzs
    rw [hzs] at hnf HNX HPL HPT
    rw [hk] at HPT
    have u1 := u8_bd k
    have u2 := u8_bd (n' : Int)
    obtain ⟨K, hK⟩ : ∃ K, IntKind.u8.wrap k = K := ⟨_, rfl⟩
    obtain ⟨M, hM⟩ : ∃ M, IntKind.u8.wrap (n' : Int) = M := ⟨_, rfl⟩
    rw [hK] at u1
    rw [hM] at u2
    rw [hK, ← HNX.out, hM] at HPT
    obtain ⟨u10, u11⟩ := u1
    obtain ⟨u20, u21⟩ := u2
    clear hk hzs hx k0w
    have bx := hb.alloc hb.size (.cells #[.int .i64 k, .slice A' n' c'] 73)
    have hX := Blk.new wr 73 #[.int .i64 k, .slice A' n' c']
    obtain ⟨gx, hgx⟩ : ∃ gx, wr.heap.size = gx := ⟨_, rfl⟩
    have HGX := Lib.hid hgx
    rw [hgx] at hX
    clear hgx
    obtain ⟨W1, hW1⟩ : ∃ W, wr.alloc (.cells #[.int .i64 k, .slice A' n' c'] 73) = W := ⟨_, rfl⟩
    have HW1 := Lib.hid hW1
    have ho1 := ho.alloc (.cells #[.int .i64 k, .slice A' n' c'] 73)
    rw [hW1] at bx hX ho1
    clear hW1
    have x0 := hX.cell 0
    have x1 := hX.cell 1
    have hzx := bx.size
    go_upto_region 5 with fail
    try rw [HW1.out, HGX.out]
    try rw [HGX.out]
    have bv := BS.vals W1 5 [K, M] (by intro y hy; simp at hy; omega) rfl
    have ba := bx.alloc bx.size (.cells #[.int .u8 K, .int .u8 M] 5)
    have hX2 := hX.below ((Below.refl W1.heap.size W1).alloc (Nat.le_refl _) (.cells #[.int .u8 K, .int .u8 M] 5)) hX.lt
    go_upto_region 6 with (at_builtin; refine wpl_app rfl (.tmp 16) (.tmp 24) _ rfl 5 Tryd.underlying40 u8info w.heap.size A1 n1 c1 _ (by rfl) (ho1.alloc _) (W1.heap.size + 1) (some ⟨W1.heap.size, 0, none⟩) 2 2 [ub K, ub M] (by rfl) bv (by have := HPL.out; simp; omega) (by simp; omega) ?_; intro A3 n3 c3 w3 o3 b3 g3)
    have hX3 := hX2.grown g3 (by intro e; first | exact own_blk_ne (ho1.alloc (.cells #[.int .u8 K, .int .u8 M] 5)).2 hX2 (by decide) e | exact own_blk_ne (ho1.alloc (.cells #[.int .u8 K, .int .u8 M] 5)).2 hX2 (by decide) e.symm)
    have b03 := ba.trans b3
    clear x0 x1 k0 k1
    have y1 := hX3.cell 1
    obtain ⟨D, hD⟩ : ∃ D, putA wide (l.take j) ++ [ub K, ub M] = D := ⟨_, rfl⟩
    rw [hD] at o3 HPT
    have HDL := Lib.hid (show D.length + 4 * zs.length ≤ 140737488351300 by rw [← hD, List.length_append]; have := HPL.out; simp; omega)
    clear hD
    go_wp2_with fail
    go_loopw [5, 29] (fun s i wi => ∃ (q : Nat) (A2 : Option Addr) (n2 c2 : Nat), q ≤ n' ∧ i = .int .i64 q ∧ s = .slice A2 n2 c2 ∧ OB wi 5 w.heap.size A2 n2 c2 (D ++ (zs.take q).flatMap (asB wide)) ∧ Below w.heap.size w wi) (fun _ i _ => n' - (intOf i).toNat)
    case atStart => exact ⟨0, A3, n3, c3, by omega, rfl, rfl, by rw [List.take_zero, List.flatMap_nil, List.append_nil]; exact o3, b03⟩
    case round =>
      obtain ⟨q, A2, n2, c2, hq, rfl, rfl, ho2, hb2⟩ := hrel
      by_cases hql : q < n'
      case neg =>
        have e3 : decide ((q : Int) < n') = false := decide_eq_false (by omega)
        have HG := Lib.hid (show D ++ (zs.take q).flatMap (asB wide) = putA wide (l.take (j + 1)) by rw [HPT.out, List.take_of_length_le (l := zs) (by have := HNX.out; omega)])
        go_wp2_with fail
        go_roundw
        case rel => exact ⟨j + 1, A2, n2, c2, by omega, by go_num, rfl, by rw [← HG.out]; exact ho2, hb2⟩
        case measure => simp [intOf]; omega
      have e3 : decide ((q : Int) < n') = true := decide_eq_true (by omega)
      have hqi : (q : Int) < n' := by omega
      obtain ⟨y, hy⟩ : ∃ y, zs[q]? = some y := ⟨_, List.getElem?_eq_getElem (by have := HNX.out; omega)⟩
      obtain ⟨b4, off4, rfl, hbl4, z0⟩ := (hnf.keep (Kp.call hb2)).at_ hy
      have HY := Lib.hid (asB_take (wide := wide) hy)
      obtain ⟨hy0, hy1⟩ := hnf.wf_ hy
      have HLN := Lib.hid (show (D ++ (zs.take q).flatMap (asB wide)).length ≤ 140737488351300 by
        have h1 := HDL.out
        have h2 := asB_flat wide (zs.take q)
        have h3 := HNX.out
        rw [List.length_take] at h2
        rw [List.length_append]
        omega)
      have wy : IntKind.i64.wrap y = y := IntWalk.i64_in _ ⟨by omega, by omega⟩
      have wq : IntKind.i64.wrap ((q : Int) + 1) = (q : Int) + 1 := IntWalk.i64_in _ ⟨by omega, by have h1 := HDL.out; have h2 := HNX.out; omega⟩
      clear hy
      cases wide
      · by_cases hbig : 65535 < y
        · have t1 : decide (65535 < y) = true := decide_eq_true hbig
          have HBG := Lib.hid hbig
          clear hbig hy0 hy1
          go_wp2_with fail
          refine (octetPut16 A2 n2 c2 _ 23456 _ ho2.bs (by have := HLN.out; omega)).mono ?_
          rintro _ w4 ⟨A5, n5, c5, rfl, o5, b5⟩
          have b05 := btr hb2 b5 hb2.size
          go_wp2_with fail
          go_roundw
          case rel => exact ⟨q + 1, A5, n5, c5, by omega, by go_num, rfl, by rw [HY.out, ← List.append_assoc, show asB false y = b16 23456 from by unfold asB; rw [if_neg (by simp), if_pos HBG.out]]; exact o5.low hb2.size, b05⟩
          case measure => simp [intOf]; omega
        · have t1 : decide (65535 < y) = false := decide_eq_false hbig
          have HBG := Lib.hid hbig
          clear hbig hy0 hy1
          go_wp2_with fail
          refine (octetPut16 A2 n2 c2 _ y _ ho2.bs (by have := HLN.out; omega)).mono ?_
          rintro _ w4 ⟨A5, n5, c5, rfl, o5, b5⟩
          have b05 := btr hb2 b5 hb2.size
          go_wp2_with fail
          go_roundw
          case rel => exact ⟨q + 1, A5, n5, c5, by omega, by go_num, rfl, by rw [HY.out, ← List.append_assoc, show asB false y = b16 y from by unfold asB; have h := HBG.out; rw [if_neg (by simp), if_neg (by omega)]]; exact o5.low hb2.size, b05⟩
          case measure => simp [intOf]; omega
      · have HY0 := Lib.hid (And.intro hy0 hy1)
        clear hy0 hy1
        go_wp2_with fail
        refine (octetPut32 A2 n2 c2 _ y _ ho2.bs (by have := HLN.out; omega) HY0.out.1 (by have := HY0.out.2; omega)).mono ?_
        rintro _ w4 ⟨A5, n5, c5, rfl, o5, b5⟩
        have b05 := btr hb2 b5 hb2.size
        go_wp2_with fail
        go_roundw
        case rel => exact ⟨q + 1, A5, n5, c5, by omega, by go_num, rfl, by rw [HY.out, ← List.append_assoc, show asB true y = b32 y from by unfold asB; rw [if_pos rfl]]; exact o5.low hb2.size, b05⟩
        case measure => simp [intOf]; omega
set_option maxHeartbeats 8000000 in
set_option maxRecDepth 100000 in
theorem refPut03 (A : Option Addr) (n c : Nat) (l : List Seg) (wide : Bool) (w : World) (hd : DL rSeg 2 w (Lo w) A n l) (hn : n ≤ 12) (hs : Hid (sumN l ≤ big32)) :
    Calls Tryd.prog 40 #[.slice A n c, .bool wide] w (RetB w 5 (putA wide l)) := by
  have HN := Lib.hid hd.len
  go_enter Tryd.func40, Tryd.ntmps40
  go_wp2_with fail
  go_loopw [5, 6] (fun s i wr => ∃ (j : Nat) (A1 : Option Addr) (n1 c1 : Nat), j ≤ n ∧ i = .int .i64 j ∧ s = .slice A1 n1 c1 ∧ OB wr 5 w.heap.size A1 n1 c1 (putA wide (l.take j)) ∧ Below w.heap.size w wr) (fun _ i _ => n - (intOf i).toNat)
  case atStart => exact ⟨0, none, 0, 0, by omega, rfl, rfl, OB.nil_, Below.refl _ _⟩
  case round =>
    obtain ⟨j, A1, n1, c1, hj, rfl, rfl, ho, hb⟩ := hrel
    by_cases hlt : j < n
    case neg =>
      have e2 : decide ((j : Int) < n) = false := decide_eq_false (by omega)
      have HF := Lib.hid (show putA wide (l.take j) = putA wide l by rw [List.take_of_length_le (by have := HN.out; omega)])
      go_wp2_with fail
      go_ret
      exact ⟨A1, n1, c1, rfl, by rw [← HF.out]; exact ho, hb⟩
    have e2 : decide ((j : Int) < n) = true := decide_eq_true (by omega)
    have hlti : (j : Int) < n := by omega
    obtain ⟨x, hx⟩ := getS HN.out hlt
    have HPT := Lib.hid (putA_take (wide := wide) hx)
    have HPL := Lib.hid (show (putA wide (l.take j)).length + 4 * x.2.length + 2 ≤ 140737488351300 by
      have h1 := putA_len wide (l.take j)
      have h2 := sumN_take hx
      have h3 := sumN_le l (j + 1)
      have h4 := hs.out
      unfold big32 at h4
      rw [List.length_take] at h1
      omega)
    obtain ⟨b, off, A', n', c', rfl, hbl, k0w, k1w, hnf, hnc'⟩ := hd.segAt hx
    have hbl : b < w.heap.size := hbl
    have k0 := (hb.cell (p := ⟨b, off + j * 2, none⟩) hbl).trans k0w
    have k1 := (hb.cell (p := ⟨b, off + j * 2 + 1, none⟩) hbl).trans k1w
    have HNX := Lib.hid hnf.1
    have wj : IntKind.i64.wrap ((j : Int) + 1) = (j : Int) + 1 := IntWalk.i64_in _ ⟨by omega, by omega⟩
    obtain ⟨k, hk⟩ : ∃ k, x.1 = k := ⟨_, rfl⟩
    have HK := Lib.hid hk
    rw [hk] at k0
    obtain ⟨zs, hzs⟩ : ∃ zs, x.2 = zs := ⟨_, rfl⟩
    have HZ := Lib.hid hzs
    rw [hzs] at hnf HNX HPL HPT
    rw [hk] at HPT
    have u1 := u8_bd k
    have u2 := u8_bd (n' : Int)
    obtain ⟨K, hK⟩ : ∃ K, IntKind.u8.wrap k = K := ⟨_, rfl⟩
    obtain ⟨M, hM⟩ : ∃ M, IntKind.u8.wrap (n' : Int) = M := ⟨_, rfl⟩
    rw [hK] at u1
    rw [hM] at u2
    rw [hK, ← HNX.out, hM] at HPT
    obtain ⟨u10, u11⟩ := u1
    obtain ⟨u20, u21⟩ := u2
    clear hk hzs hx k0w
    have bv := BS.vals wr 5 [K] (by intro y hy; simp at hy; omega) rfl
    have ba := hb.alloc hb.size (.cells #[.int .u8 K] 5)
    have hzb := hb.size
    go_upto_region 6 with (at_builtin; refine wpl_app rfl (.tmp 15) (.tmp 22) _ rfl 5 Tryd.underlying40 u8info w.heap.size A1 n1 c1 _ (by rfl) (ho.alloc _) (wr.heap.size + 1) (some ⟨wr.heap.size, 0, none⟩) 1 1 [ub K] (by rfl) bv (by have := HPL.out; simp; omega) (by simp; omega) ?_; intro A2 n2 c2 w2 o2 b2 g2)
    have b02 := ba.trans b2
    have hz2 := b02.size
    clear k0 k1
    have k1b := (b02.cell (p := ⟨b, off + j * 2 + 1, none⟩) hbl).trans k1w
    have bv2 := BS.vals w2 5 [M] (by intro y hy; simp at hy; omega) rfl
    have ba2 := b02.alloc b02.size (.cells #[.int .u8 M] 5)
    go_upto_region 7 with (at_builtin; refine wpl_app rfl (.tmp 24) (.tmp 32) _ rfl 5 Tryd.underlying40 u8info w.heap.size A2 n2 c2 _ (by rfl) (o2.alloc _) (w2.heap.size + 1) (some ⟨w2.heap.size, 0, none⟩) 1 1 [ub M] (by rfl) bv2 (by have := HPL.out; simp; omega) (by simp; omega) ?_; intro A3 n3 c3 w3 o3 b3 g3)
    have b03 := ba2.trans b3
    rw [List.append_assoc] at o3
    obtain ⟨D, hD⟩ : ∃ D, putA wide (l.take j) ++ ([ub K] ++ [ub M]) = D := ⟨_, rfl⟩
    have hD2 : putA wide (l.take j) ++ [ub K, ub M] = D := hD
    rw [hD] at o3
    rw [hD2] at HPT
    have HDL := Lib.hid (show D.length + 4 * zs.length ≤ 140737488351300 by rw [← hD, List.length_append]; have := HPL.out; simp; omega)
    clear hD hD2 k1b
    go_wp2_with fail
    go_loopw [5, 7] (fun s i wi => ∃ (q : Nat) (A2 : Option Addr) (n2 c2 : Nat), q ≤ n' ∧ i = .int .i64 q ∧ s = .slice A2 n2 c2 ∧ OB wi 5 w.heap.size A2 n2 c2 (D ++ (zs.take q).flatMap (asB wide)) ∧ Below w.heap.size w wi) (fun _ i _ => n' - (intOf i).toNat)
    case atStart => exact ⟨0, A3, n3, c3, by omega, rfl, rfl, by rw [List.take_zero, List.flatMap_nil, List.append_nil]; exact o3, b03⟩
    case round =>
      obtain ⟨q, A2, n2, c2, hq, rfl, rfl, ho2, hb2⟩ := hrel
      have k1 := (hb2.cell (p := ⟨b, off + j * 2 + 1, none⟩) hbl).trans k1w
      by_cases hql : q < n'
      case neg =>
        have e3 : decide ((q : Int) < n') = false := decide_eq_false (by omega)
        have HG := Lib.hid (show D ++ (zs.take q).flatMap (asB wide) = putA wide (l.take (j + 1)) by rw [HPT.out, List.take_of_length_le (l := zs) (by have := HNX.out; omega)])
        go_wp2_with fail
        go_roundw
        case rel => exact ⟨j + 1, A2, n2, c2, by omega, by go_num, rfl, by rw [← HG.out]; exact ho2, hb2⟩
        case measure => simp [intOf]; omega
      have e3 : decide ((q : Int) < n') = true := decide_eq_true (by omega)
      have hqi : (q : Int) < n' := by omega
      obtain ⟨y, hy⟩ : ∃ y, zs[q]? = some y := ⟨_, List.getElem?_eq_getElem (by have := HNX.out; omega)⟩
      obtain ⟨b4, off4, rfl, hbl4, z0⟩ := (hnf.keep (Kp.call hb2)).at_ hy
      have HY := Lib.hid (asB_take (wide := wide) hy)
      obtain ⟨hy0, hy1⟩ := hnf.wf_ hy
      have HLN := Lib.hid (show (D ++ (zs.take q).flatMap (asB wide)).length ≤ 140737488351300 by
        have h1 := HDL.out
        have h2 := asB_flat wide (zs.take q)
        have h3 := HNX.out
        rw [List.length_take] at h2
        rw [List.length_append]
        omega)
      have wy : IntKind.i64.wrap y = y := IntWalk.i64_in _ ⟨by omega, by omega⟩
      have wq : IntKind.i64.wrap ((q : Int) + 1) = (q : Int) + 1 := IntWalk.i64_in _ ⟨by omega, by have h1 := HDL.out; have h2 := HNX.out; omega⟩
      clear hy
      cases wide
      · by_cases hbig : 65535 < y
        · have t1 : decide (65535 < y) = true := decide_eq_true hbig
          have HBG := Lib.hid hbig
          clear hbig hy0 hy1
          go_wp2_with fail
          refine (ref01Put16 A2 n2 c2 _ 23456 _ ho2.bs (by have := HLN.out; omega)).mono ?_
          rintro _ w4 ⟨A5, n5, c5, rfl, o5, b5⟩
          have b05 := btr hb2 b5 hb2.size
          go_wp2_with fail
          go_roundw
          case rel => exact ⟨q + 1, A5, n5, c5, by omega, by go_num, rfl, by rw [HY.out, ← List.append_assoc, show asB false y = b16 23456 from by unfold asB; rw [if_neg (by simp), if_pos HBG.out]]; exact o5.low hb2.size, b05⟩
          case measure => simp [intOf]; omega
        · have t1 : decide (65535 < y) = false := decide_eq_false hbig
          have HBG := Lib.hid hbig
          clear hbig hy0 hy1
          go_wp2_with fail
          refine (ref01Put16 A2 n2 c2 _ y _ ho2.bs (by have := HLN.out; omega)).mono ?_
          rintro _ w4 ⟨A5, n5, c5, rfl, o5, b5⟩
          have b05 := btr hb2 b5 hb2.size
          go_wp2_with fail
          go_roundw
          case rel => exact ⟨q + 1, A5, n5, c5, by omega, by go_num, rfl, by rw [HY.out, ← List.append_assoc, show asB false y = b16 y from by unfold asB; have h := HBG.out; rw [if_neg (by simp), if_neg (by omega)]]; exact o5.low hb2.size, b05⟩
          case measure => simp [intOf]; omega
      · have HY0 := Lib.hid (And.intro hy0 hy1)
        clear hy0 hy1
        go_wp2_with fail
        refine (ref01Put32 A2 n2 c2 _ y _ ho2.bs (by have := HLN.out; omega) HY0.out.1 (by have := HY0.out.2; omega)).mono ?_
        rintro _ w4 ⟨A5, n5, c5, rfl, o5, b5⟩
        have b05 := btr hb2 b5 hb2.size
        go_wp2_with fail
        go_roundw
        case rel => exact ⟨q + 1, A5, n5, c5, by omega, by go_num, rfl, by rw [HY.out, ← List.append_assoc, show asB true y = b32 y from by unfold asB; rw [if_pos rfl]]; exact o5.low hb2.size, b05⟩
        case measure => simp [intOf]; omega
end Go.Proofs.YtlpkngjeihoknaaDoor
