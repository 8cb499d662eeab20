/- Walks of layer 3 (paths): one as a text, by the document. No conditions but sizes. -/
import Derived.Test.YtlpkngjeihoknaaDoorProg
import Derived.WalkKit
import Derived.WalkSpells
import Derived.WalkLawsBesides
import Derived.Outline
import Derived.Deep.QuietTactic
import Derived.BigQuiet
import Derived.Handy
import Derived.Lib.Hide
import Derived.Test.YtlpkngjeihoknaaDoorRefText
import Derived.Test.YtlpkngjeihoknaaDoorAspF
import Derived.Test.YtlpkngjeihoknaaDoorAspG
namespace Go.Proofs.YtlpkngjeihoknaaDoor
open Go.RowKit
set_option linter.unusedSimpArgs false
set_option linter.unusedVariables false
/-- What has been written where j parts are done. -/
def textAt (N : List Seg) (j : Nat) : List UInt8 := Lib.join ((N.take j).map segT) [32]
def sepOf (k : Int) : List UInt8 := if k = 1 then [44] else [32]
def opnOf (k : Int) : List UInt8 := if k = 1 then [123] else []
def endOf (k : Int) : List UInt8 := if k = 1 then [125] else []
theorem segT_of (x : Seg) : segT x = opnOf x.1 ++ Lib.join (x.2.map decI) (sepOf x.1) ++ endOf x.1 := by
  unfold segT opnOf sepOf endOf
  split <;> simp
theorem textAt_succ {N : List Seg} {j : Nat} {x : Seg} (h : N[j]? = some x) : textAt N (j + 1) = (if j = 0 then [] else textAt N j ++ [32]) ++ segT x := by
  unfold textAt
  have hl := (List.getElem?_eq_some_iff.1 h).1
  rw [take_snoc h, List.map_append, List.map_singleton, join_snoc]
  by_cases h0 : j = 0
  · subst h0; simp
  · rw [if_neg h0, if_neg (by intro e; have := congrArg List.length e; rw [List.length_map, List.length_take, List.length_nil] at this; omega)]
theorem num_succ {zs : List Int} {q : Nat} {y : Int} (h : zs[q]? = some y) (sep : List UInt8) : Lib.join ((zs.take (q + 1)).map decI) sep = (if q = 0 then [] else Lib.join ((zs.take q).map decI) sep ++ sep) ++ decI y := by
  have hl := (List.getElem?_eq_some_iff.1 h).1
  rw [take_snoc h, List.map_append, List.map_singleton, join_snoc]
  by_cases h0 : q = 0
  · subst h0; simp
  · rw [if_neg h0, if_neg (by intro e; have := congrArg List.length e; rw [List.length_map, List.length_take, List.length_nil] at this; omega)]
theorem size_of (S : ByteArray) : S.size = S.data.toList.length := rfl
theorem sizeApp (a b : ByteArray) : (a ++ b).size = a.size + b.size := ByteArray.size_append
set_option maxHeartbeats 8000000 in
set_option maxRecDepth 100000 in
theorem refText03 (A : Option Addr) (n c : Nat) (l : List Seg) (w : World) (hd : DL rSeg 2 w (Lo w) A n l) (hn : n ≤ 100000) :
    Calls Tryd.prog 19 #[.slice A n c] w fun e w' => e = .returned (.string (textS l)) ∧ Below w.heap.size w w' := by
  have HR := refRight03 A n c l w hd hn
  obtain ⟨r, hr⟩ : ∃ r, rightA l = r := ⟨_, rfl⟩
  rw [hr] at HR
  have HRR := Lib.hid hr
  clear hr
  cases r
  · have HF := Lib.hid (show textS l = ⟨#[]⟩ by unfold textS textA; rw [HRR.out]; rfl)
    go_enter Tryd.func19, Tryd.ntmps19
    go_wp2_with fail
    refine HR.mono ?_
    rintro _ w1 ⟨rfl, b1⟩
    go_wp2_with fail
    go_ret
    exact ⟨by rw [HF.out] <;> rfl, b1⟩
  have hro := rightA_of HRR.out
  have HS := Lib.hid (show sumN l ≤ big32 by have := hro.2.1; unfold big32; omega)
  have HW := Lib.hid (WF_norm hd.wf)
  have HSN := Lib.hid (show sumN (normA l) ≤ 64 by rw [sumN_norm]; exact hro.2.1)
  have HLN := Lib.hid (show (normA l).length ≤ 8 from Nat.le_trans (len_norm l) hro.2.2)
  have HF := Lib.hid (show (textS l).data.toList = textAt (normA l) (normA l).length by unfold textS textA textAt; rw [HRR.out, if_pos rfl, List.take_length])
  clear hro HRR
  obtain ⟨N, hN⟩ : ∃ N, normA l = N := ⟨_, rfl⟩
  have HNO := fun w hd => refNorm03 A n c l w hd hn HS
  simp only [hN] at HNO
  rw [hN] at HW HSN HLN HF
  have HNO2 := Lib.hid HNO
  clear hN HNO
  go_enter Tryd.func19, Tryd.ntmps19
  go_wp2_with fail
  refine HR.mono ?_
  rintro _ w1 ⟨rfl, b1⟩
  have hd1 := hd.keep rSeg_ok (Kp.call b1)
  go_wp2_with fail
  refine (HNO2.out _ hd1).mono ?_
  rintro _ w2 ⟨Am, nm, cm, L, rfl, hop, hL, b2⟩
  have hdl := hop.dl
  rw [hL] at hdl
  have HNM := Lib.hid hdl.len
  have hnm : nm ≤ 8 := by have h1 := HNM.out; have h2 := HLN.out; omega
  have b02 := btr b1 b2 b1.size
  clear hop hL
  go_wp2_with fail
  go_loopw [3, 5] (fun s i wr => ∃ (j : Nat) (S : ByteArray), j ≤ nm ∧ i = .int .i64 j ∧ s = .string S ∧ S.size ≤ 1000 * j ∧ Hid (S.data.toList = textAt N j) ∧ Below w2.heap.size w2 wr) (fun _ i _ => nm - (intOf i).toNat)
  case atStart => exact ⟨0, ⟨#[]⟩, by omega, rfl, rfl, Nat.zero_le _, Lib.hid (by simp [textAt, Lib.join_nil]), Below.refl _ _⟩
  case round =>
    obtain ⟨j, S, hj, rfl, rfl, hsz, HT, hb⟩ := hrel
    by_cases hlt : j < nm
    case neg =>
      have e2 : decide ((j : Int) < nm) = false := decide_eq_false (by omega)
      have HG := Lib.hid (show S = textS l from bytesExt (by rw [HT.out, HF.out]; congr 1; have := HNM.out; omega))
      go_wp2_with fail
      go_ret
      exact ⟨by rw [← HG.out] <;> rfl, btr b02 hb b02.size⟩
    have e2 : decide ((j : Int) < nm) = true := decide_eq_true (by omega)
    have hlti : (j : Int) < nm := by omega
    have hsz0 : (S.size : Int) ≤ 8000 := by omega
    obtain ⟨x, hx⟩ := getS HNM.out hlt
    have HX := Lib.hid hx
    have HTS := Lib.hid (textAt_succ hx)
    have HXW := Lib.hid (HW.out x (List.mem_of_getElem? hx))
    have HX64 := Lib.hid (show x.2.length ≤ 64 by have h1 := sumN_at hx; have h2 := HSN.out; omega)
    obtain ⟨b, off, A', n', c', rfl, hbl, k0w, k1w, hnf, hnc'⟩ := hdl.segAt hx
    have hbl : b < w2.heap.size := hbl
    have k0 := (hb.cell (p := ⟨b, off + j * 2, none⟩) hbl).trans k0w
    have HNX := Lib.hid hnf.1
    have hn64 : n' ≤ 64 := by have h1 := HNX.out; have h2 := HX64.out; omega
    have wj : IntKind.i64.wrap ((j : Int) + 1) = (j : Int) + 1 := IntWalk.i64_in _ ⟨by omega, by omega⟩
    obtain ⟨k, hk⟩ : ∃ k, x.1 = k := ⟨_, rfl⟩
    have HK := Lib.hid hk
    rw [hk] at k0
    clear hk hx k0w
    obtain ⟨P, hP⟩ : ∃ P : List UInt8, (if j = 0 then ([] : List UInt8) else S.data.toList ++ [32]) = P := ⟨_, rfl⟩
    have HPT := Lib.hid (show textAt N (j + 1) = P ++ segT x by rw [HTS.out, ← HT.out, hP])
    have HPP := Lib.hid hP
    clear hP
    by_cases hk1 : k = 1
    · have t1 : (k == 1) = true := by simpa using hk1
      have HSG := Lib.hid (show segT x = [123] ++ Lib.join (x.2.map decI) [44] ++ [125] by unfold segT; rw [if_pos (by rw [HK.out]; exact hk1)])
      clear hk1
      by_cases h0 : j = 0
      · have t2 : decide (0 < j) = false := decide_eq_false (by omega)
        have HP2 := Lib.hid (show (S ++ ⟨#[123]⟩).data.toList = P ++ [123] by rw [bytesApp, ← HPP.out, HT.out, if_pos h0, h0]; simp [textAt, Lib.join_nil])
        have hz2 : (S ++ ⟨#[123]⟩).size ≤ 1000 * j + 2 := by rw [sizeApp]; have : (⟨#[123]⟩ : ByteArray).size = 1 := rfl; omega
        clear h0
        go_wp2_with fail
        go_loopw [3, 9] (fun s i wi => ∃ (q : Nat) (S1 : ByteArray), q ≤ n' ∧ i = .int .i64 q ∧ s = .string S1 ∧ S1.size ≤ 1000 * j + 2 + 12 * q ∧ Hid (S1.data.toList = P ++ [123] ++ Lib.join ((x.2.take q).map decI) [44]) ∧ Below w2.heap.size w2 wi) (fun _ i _ => n' - (intOf i).toNat)
        case atStart => exact ⟨0, S ++ ⟨#[123]⟩, by omega, rfl, rfl, by omega, Lib.hid (by rw [HP2.out]; simp [Lib.join_nil]), hb⟩
        case round =>
          obtain ⟨q, S1, hq, rfl, rfl, hsz1, HQ, hb2⟩ := hrel
          have k1 := (hb2.cell (p := ⟨b, off + j * 2 + 1, none⟩) hbl).trans k1w
          have hss1 : (S1.size : Int) ≤ 9000 := by omega
          clear t1 t2
          by_cases hql : q < n'
          · have e3 : decide ((q : Int) < n') = true := decide_eq_true (by omega)
            have hqi : (q : Int) < n' := by omega
            obtain ⟨y, hy⟩ : ∃ y, x.2[q]? = some y := ⟨_, List.getElem?_eq_getElem (by have := HNX.out; omega)⟩
            obtain ⟨b3, off3, rfl, hbl3, z0⟩ := (hnf.keep (Kp.call hb2)).at_ hy
            have HY := Lib.hid (num_succ hy [44])
            have hy0 := (HXW.out y (List.mem_of_getElem? hy)).1
            have hy1 := (HXW.out y (List.mem_of_getElem? hy)).2
            have wy : IntKind.i64.wrap y = y := IntWalk.i64_in _ ⟨by omega, by omega⟩
            have wq : IntKind.i64.wrap ((q : Int) + 1) = (q : Int) + 1 := IntWalk.i64_in _ ⟨by omega, by omega⟩
            have HTX := Lib.hid (fun W => refText y (numS y) W (by omega) (by omega) (Lib.hid rfl))
            obtain ⟨T, hT⟩ : ∃ T, numS y = T := ⟨_, rfl⟩
            rw [hT] at HTX
            have HSS := Lib.hid (show T.data.toList = decI y by rw [← hT]; rfl)
            have HYS := Lib.hid (show T.size ≤ 10 by rw [← hT]; exact decI_ten hy0 hy1)
            have hts : (T.size : Int) ≤ 10 := by have := HYS.out; omega
            clear hy hT
            by_cases h0q : q = 0
            · have t3 : decide (0 < q) = false := decide_eq_false (by omega)
              have H0q := Lib.hid h0q
              clear h0q
              go_wp2_with fail
              refine (HTX.out _).mono ?_
              rintro _ w4 ⟨rfl, b4⟩
              have b14 := btr hb2 b4 hb2.size
              go_wp2_with fail
              go_roundw
              case rel => exact ⟨q + 1, _, by omega, by go_num, rfl, by (repeat rw [sizeApp]); (try have hs1 : (⟨#[44]⟩ : ByteArray).size = 1 := rfl); have := HYS.out; omega, Lib.hid (by (repeat rw [bytesApp]); rw [HQ.out, HY.out, HSS.out]; (have h0q := H0q.out; first | rw [if_neg h0q] | rw [if_pos h0q, h0q]); simp [Lib.join_nil]), b14⟩
              case measure => simp [intOf]; omega
            · have t3 : decide (0 < q) = true := decide_eq_true (by omega)
              have H0q := Lib.hid h0q
              clear h0q
              go_wp2_with fail
              refine (HTX.out _).mono ?_
              rintro _ w4 ⟨rfl, b4⟩
              have b14 := btr hb2 b4 hb2.size
              go_wp2_with fail
              go_roundw
              case rel => exact ⟨q + 1, _, by omega, by go_num, rfl, by (repeat rw [sizeApp]); (try have hs1 : (⟨#[44]⟩ : ByteArray).size = 1 := rfl); have := HYS.out; omega, Lib.hid (by (repeat rw [bytesApp]); rw [HQ.out, HY.out, HSS.out]; (have h0q := H0q.out; first | rw [if_neg h0q] | rw [if_pos h0q, h0q]); simp [Lib.join_nil]), b14⟩
              case measure => simp [intOf]; omega
          · have e3 : decide ((q : Int) < n') = false := decide_eq_false (by omega)
            have HG := Lib.hid (show (S1 ++ ⟨#[125]⟩).data.toList = textAt N (j + 1) by
              rw [bytesApp, HQ.out, HPT.out, HSG.out, List.take_of_length_le (l := x.2) (by have := HNX.out; omega)]; simp)
            have hzg : (S1 ++ ⟨#[125]⟩).size ≤ 1000 * (j + 1) := by rw [sizeApp]; have : (⟨#[125]⟩ : ByteArray).size = 1 := rfl; omega
            go_wp2_with fail
            go_roundw
            case rel => exact ⟨j + 1, _, by omega, by go_num, rfl, hzg, HG, hb2⟩
            case measure => simp [intOf]; omega
      · have t2 : decide (0 < j) = true := decide_eq_true (by omega)
        have HP2 := Lib.hid (show (S ++ ⟨#[32]⟩ ++ ⟨#[123]⟩).data.toList = P ++ [123] by rw [bytesApp, bytesApp, ← HPP.out, if_neg h0])
        have hz2 : (S ++ ⟨#[32]⟩ ++ ⟨#[123]⟩).size ≤ 1000 * j + 2 := by rw [sizeApp, sizeApp]; have : (⟨#[123]⟩ : ByteArray).size = 1 := rfl; have : (⟨#[32]⟩ : ByteArray).size = 1 := rfl; omega
        clear h0
        go_wp2_with fail
        go_loopw [3, 9] (fun s i wi => ∃ (q : Nat) (S1 : ByteArray), q ≤ n' ∧ i = .int .i64 q ∧ s = .string S1 ∧ S1.size ≤ 1000 * j + 2 + 12 * q ∧ Hid (S1.data.toList = P ++ [123] ++ Lib.join ((x.2.take q).map decI) [44]) ∧ Below w2.heap.size w2 wi) (fun _ i _ => n' - (intOf i).toNat)
        case atStart => exact ⟨0, S ++ ⟨#[32]⟩ ++ ⟨#[123]⟩, by omega, rfl, rfl, by omega, Lib.hid (by rw [HP2.out]; simp [Lib.join_nil]), hb⟩
        case round =>
          obtain ⟨q, S1, hq, rfl, rfl, hsz1, HQ, hb2⟩ := hrel
          have k1 := (hb2.cell (p := ⟨b, off + j * 2 + 1, none⟩) hbl).trans k1w
          have hss1 : (S1.size : Int) ≤ 9000 := by omega
          clear t1 t2
          by_cases hql : q < n'
          · have e3 : decide ((q : Int) < n') = true := decide_eq_true (by omega)
            have hqi : (q : Int) < n' := by omega
            obtain ⟨y, hy⟩ : ∃ y, x.2[q]? = some y := ⟨_, List.getElem?_eq_getElem (by have := HNX.out; omega)⟩
            obtain ⟨b3, off3, rfl, hbl3, z0⟩ := (hnf.keep (Kp.call hb2)).at_ hy
            have HY := Lib.hid (num_succ hy [44])
            have hy0 := (HXW.out y (List.mem_of_getElem? hy)).1
            have hy1 := (HXW.out y (List.mem_of_getElem? hy)).2
            have wy : IntKind.i64.wrap y = y := IntWalk.i64_in _ ⟨by omega, by omega⟩
            have wq : IntKind.i64.wrap ((q : Int) + 1) = (q : Int) + 1 := IntWalk.i64_in _ ⟨by omega, by omega⟩
            have HTX := Lib.hid (fun W => refText y (numS y) W (by omega) (by omega) (Lib.hid rfl))
            obtain ⟨T, hT⟩ : ∃ T, numS y = T := ⟨_, rfl⟩
            rw [hT] at HTX
            have HSS := Lib.hid (show T.data.toList = decI y by rw [← hT]; rfl)
            have HYS := Lib.hid (show T.size ≤ 10 by rw [← hT]; exact decI_ten hy0 hy1)
            have hts : (T.size : Int) ≤ 10 := by have := HYS.out; omega
            clear hy hT
            by_cases h0q : q = 0
            · have t3 : decide (0 < q) = false := decide_eq_false (by omega)
              have H0q := Lib.hid h0q
              clear h0q
              go_wp2_with fail
              refine (HTX.out _).mono ?_
              rintro _ w4 ⟨rfl, b4⟩
              have b14 := btr hb2 b4 hb2.size
              go_wp2_with fail
              go_roundw
              case rel => exact ⟨q + 1, _, by omega, by go_num, rfl, by (repeat rw [sizeApp]); (try have hs1 : (⟨#[44]⟩ : ByteArray).size = 1 := rfl); have := HYS.out; omega, Lib.hid (by (repeat rw [bytesApp]); rw [HQ.out, HY.out, HSS.out]; (have h0q := H0q.out; first | rw [if_neg h0q] | rw [if_pos h0q, h0q]); simp [Lib.join_nil]), b14⟩
              case measure => simp [intOf]; omega
            · have t3 : decide (0 < q) = true := decide_eq_true (by omega)
              have H0q := Lib.hid h0q
              clear h0q
              go_wp2_with fail
              refine (HTX.out _).mono ?_
              rintro _ w4 ⟨rfl, b4⟩
              have b14 := btr hb2 b4 hb2.size
              go_wp2_with fail
              go_roundw
              case rel => exact ⟨q + 1, _, by omega, by go_num, rfl, by (repeat rw [sizeApp]); (try have hs1 : (⟨#[44]⟩ : ByteArray).size = 1 := rfl); have := HYS.out; omega, Lib.hid (by (repeat rw [bytesApp]); rw [HQ.out, HY.out, HSS.out]; (have h0q := H0q.out; first | rw [if_neg h0q] | rw [if_pos h0q, h0q]); simp [Lib.join_nil]), b14⟩
              case measure => simp [intOf]; omega
          · have e3 : decide ((q : Int) < n') = false := decide_eq_false (by omega)
            have HG := Lib.hid (show (S1 ++ ⟨#[125]⟩).data.toList = textAt N (j + 1) by
              rw [bytesApp, HQ.out, HPT.out, HSG.out, List.take_of_length_le (l := x.2) (by have := HNX.out; omega)]; simp)
            have hzg : (S1 ++ ⟨#[125]⟩).size ≤ 1000 * (j + 1) := by rw [sizeApp]; have : (⟨#[125]⟩ : ByteArray).size = 1 := rfl; omega
            go_wp2_with fail
            go_roundw
            case rel => exact ⟨j + 1, _, by omega, by go_num, rfl, hzg, HG, hb2⟩
            case measure => simp [intOf]; omega
    · have t1 : (k == 1) = false := by simpa using hk1
      have HSG := Lib.hid (show segT x = [] ++ Lib.join (x.2.map decI) [32] ++ [] by unfold segT; rw [if_neg (by rw [HK.out]; exact hk1)]; simp)
      clear hk1
      by_cases h0 : j = 0
      · have t2 : decide (0 < j) = false := decide_eq_false (by omega)
        have HP2 := Lib.hid (show (S ++ ⟨#[]⟩).data.toList = P ++ [] by rw [bytesApp, ← HPP.out, HT.out, if_pos h0, h0]; simp [textAt, Lib.join_nil])
        have hz2 : (S ++ ⟨#[]⟩).size ≤ 1000 * j + 2 := by rw [sizeApp]; have : (⟨#[]⟩ : ByteArray).size = 0 := rfl; omega
        clear h0
        go_wp2_with fail
        go_loopw [3, 9] (fun s i wi => ∃ (q : Nat) (S1 : ByteArray), q ≤ n' ∧ i = .int .i64 q ∧ s = .string S1 ∧ S1.size ≤ 1000 * j + 2 + 12 * q ∧ Hid (S1.data.toList = P ++ [] ++ Lib.join ((x.2.take q).map decI) [32]) ∧ Below w2.heap.size w2 wi) (fun _ i _ => n' - (intOf i).toNat)
        case atStart => exact ⟨0, S ++ ⟨#[]⟩, by omega, rfl, rfl, by omega, Lib.hid (by rw [HP2.out]; simp [Lib.join_nil]), hb⟩
        case round =>
          obtain ⟨q, S1, hq, rfl, rfl, hsz1, HQ, hb2⟩ := hrel
          have k1 := (hb2.cell (p := ⟨b, off + j * 2 + 1, none⟩) hbl).trans k1w
          have hss1 : (S1.size : Int) ≤ 9000 := by omega
          clear t1 t2
          by_cases hql : q < n'
          · have e3 : decide ((q : Int) < n') = true := decide_eq_true (by omega)
            have hqi : (q : Int) < n' := by omega
            obtain ⟨y, hy⟩ : ∃ y, x.2[q]? = some y := ⟨_, List.getElem?_eq_getElem (by have := HNX.out; omega)⟩
            obtain ⟨b3, off3, rfl, hbl3, z0⟩ := (hnf.keep (Kp.call hb2)).at_ hy
            have HY := Lib.hid (num_succ hy [32])
            have hy0 := (HXW.out y (List.mem_of_getElem? hy)).1
            have hy1 := (HXW.out y (List.mem_of_getElem? hy)).2
            have wy : IntKind.i64.wrap y = y := IntWalk.i64_in _ ⟨by omega, by omega⟩
            have wq : IntKind.i64.wrap ((q : Int) + 1) = (q : Int) + 1 := IntWalk.i64_in _ ⟨by omega, by omega⟩
            have HTX := Lib.hid (fun W => refText y (numS y) W (by omega) (by omega) (Lib.hid rfl))
            obtain ⟨T, hT⟩ : ∃ T, numS y = T := ⟨_, rfl⟩
            rw [hT] at HTX
            have HSS := Lib.hid (show T.data.toList = decI y by rw [← hT]; rfl)
            have HYS := Lib.hid (show T.size ≤ 10 by rw [← hT]; exact decI_ten hy0 hy1)
            have hts : (T.size : Int) ≤ 10 := by have := HYS.out; omega
            clear hy hT
            by_cases h0q : q = 0
            · have t3 : decide (0 < q) = false := decide_eq_false (by omega)
              have H0q := Lib.hid h0q
              clear h0q
              go_wp2_with fail
              refine (HTX.out _).mono ?_
              rintro _ w4 ⟨rfl, b4⟩
              have b14 := btr hb2 b4 hb2.size
              go_wp2_with fail
              go_roundw
              case rel => exact ⟨q + 1, _, by omega, by go_num, rfl, by (repeat rw [sizeApp]); (try have hs1 : (⟨#[32]⟩ : ByteArray).size = 1 := rfl); have := HYS.out; omega, Lib.hid (by (repeat rw [bytesApp]); rw [HQ.out, HY.out, HSS.out]; (have h0q := H0q.out; first | rw [if_neg h0q] | rw [if_pos h0q, h0q]); simp [Lib.join_nil]), b14⟩
              case measure => simp [intOf]; omega
            · have t3 : decide (0 < q) = true := decide_eq_true (by omega)
              have H0q := Lib.hid h0q
              clear h0q
              go_wp2_with fail
              refine (HTX.out _).mono ?_
              rintro _ w4 ⟨rfl, b4⟩
              have b14 := btr hb2 b4 hb2.size
              go_wp2_with fail
              go_roundw
              case rel => exact ⟨q + 1, _, by omega, by go_num, rfl, by (repeat rw [sizeApp]); (try have hs1 : (⟨#[32]⟩ : ByteArray).size = 1 := rfl); have := HYS.out; omega, Lib.hid (by (repeat rw [bytesApp]); rw [HQ.out, HY.out, HSS.out]; (have h0q := H0q.out; first | rw [if_neg h0q] | rw [if_pos h0q, h0q]); simp [Lib.join_nil]), b14⟩
              case measure => simp [intOf]; omega
          · have e3 : decide ((q : Int) < n') = false := decide_eq_false (by omega)
            have HG := Lib.hid (show (S1 ++ ⟨#[]⟩).data.toList = textAt N (j + 1) by
              rw [bytesApp, HQ.out, HPT.out, HSG.out, List.take_of_length_le (l := x.2) (by have := HNX.out; omega)]; simp)
            have hzg : (S1 ++ ⟨#[]⟩).size ≤ 1000 * (j + 1) := by rw [sizeApp]; have : (⟨#[]⟩ : ByteArray).size = 0 := rfl; omega
            go_wp2_with fail
            go_roundw
            case rel => exact ⟨j + 1, _, by omega, by go_num, rfl, hzg, HG, hb2⟩
            case measure => simp [intOf]; omega
      · have t2 : decide (0 < j) = true := decide_eq_true (by omega)
        have HP2 := Lib.hid (show (S ++ ⟨#[32]⟩ ++ ⟨#[]⟩).data.toList = P ++ [] by rw [bytesApp, bytesApp, ← HPP.out, if_neg h0])
        have hz2 : (S ++ ⟨#[32]⟩ ++ ⟨#[]⟩).size ≤ 1000 * j + 2 := by rw [sizeApp, sizeApp]; have : (⟨#[]⟩ : ByteArray).size = 0 := rfl; have : (⟨#[32]⟩ : ByteArray).size = 1 := rfl; omega
        clear h0
        go_wp2_with fail
        go_loopw [3, 9] (fun s i wi => ∃ (q : Nat) (S1 : ByteArray), q ≤ n' ∧ i = .int .i64 q ∧ s = .string S1 ∧ S1.size ≤ 1000 * j + 2 + 12 * q ∧ Hid (S1.data.toList = P ++ [] ++ Lib.join ((x.2.take q).map decI) [32]) ∧ Below w2.heap.size w2 wi) (fun _ i _ => n' - (intOf i).toNat)
        case atStart => exact ⟨0, S ++ ⟨#[32]⟩ ++ ⟨#[]⟩, by omega, rfl, rfl, by omega, Lib.hid (by rw [HP2.out]; simp [Lib.join_nil]), hb⟩
        case round =>
          obtain ⟨q, S1, hq, rfl, rfl, hsz1, HQ, hb2⟩ := hrel
          have k1 := (hb2.cell (p := ⟨b, off + j * 2 + 1, none⟩) hbl).trans k1w
          have hss1 : (S1.size : Int) ≤ 9000 := by omega
          clear t1 t2
          by_cases hql : q < n'
          · have e3 : decide ((q : Int) < n') = true := decide_eq_true (by omega)
            have hqi : (q : Int) < n' := by omega
            obtain ⟨y, hy⟩ : ∃ y, x.2[q]? = some y := ⟨_, List.getElem?_eq_getElem (by have := HNX.out; omega)⟩
            obtain ⟨b3, off3, rfl, hbl3, z0⟩ := (hnf.keep (Kp.call hb2)).at_ hy
            have HY := Lib.hid (num_succ hy [32])
            have hy0 := (HXW.out y (List.mem_of_getElem? hy)).1
            have hy1 := (HXW.out y (List.mem_of_getElem? hy)).2
            have wy : IntKind.i64.wrap y = y := IntWalk.i64_in _ ⟨by omega, by omega⟩
            have wq : IntKind.i64.wrap ((q : Int) + 1) = (q : Int) + 1 := IntWalk.i64_in _ ⟨by omega, by omega⟩
            have HTX := Lib.hid (fun W => refText y (numS y) W (by omega) (by omega) (Lib.hid rfl))
            obtain ⟨T, hT⟩ : ∃ T, numS y = T := ⟨_, rfl⟩
            rw [hT] at HTX
            have HSS := Lib.hid (show T.data.toList = decI y by rw [← hT]; rfl)
            have HYS := Lib.hid (show T.size ≤ 10 by rw [← hT]; exact decI_ten hy0 hy1)
            have hts : (T.size : Int) ≤ 10 := by have := HYS.out; omega
            clear hy hT
            by_cases h0q : q = 0
            · have t3 : decide (0 < q) = false := decide_eq_false (by omega)
              have H0q := Lib.hid h0q
              clear h0q
              go_wp2_with fail
              refine (HTX.out _).mono ?_
              rintro _ w4 ⟨rfl, b4⟩
              have b14 := btr hb2 b4 hb2.size
              go_wp2_with fail
              go_roundw
              case rel => exact ⟨q + 1, _, by omega, by go_num, rfl, by (repeat rw [sizeApp]); (try have hs1 : (⟨#[32]⟩ : ByteArray).size = 1 := rfl); have := HYS.out; omega, Lib.hid (by (repeat rw [bytesApp]); rw [HQ.out, HY.out, HSS.out]; (have h0q := H0q.out; first | rw [if_neg h0q] | rw [if_pos h0q, h0q]); simp [Lib.join_nil]), b14⟩
              case measure => simp [intOf]; omega
            · have t3 : decide (0 < q) = true := decide_eq_true (by omega)
              have H0q := Lib.hid h0q
              clear h0q
              go_wp2_with fail
              refine (HTX.out _).mono ?_
              rintro _ w4 ⟨rfl, b4⟩
              have b14 := btr hb2 b4 hb2.size
              go_wp2_with fail
              go_roundw
              case rel => exact ⟨q + 1, _, by omega, by go_num, rfl, by (repeat rw [sizeApp]); (try have hs1 : (⟨#[32]⟩ : ByteArray).size = 1 := rfl); have := HYS.out; omega, Lib.hid (by (repeat rw [bytesApp]); rw [HQ.out, HY.out, HSS.out]; (have h0q := H0q.out; first | rw [if_neg h0q] | rw [if_pos h0q, h0q]); simp [Lib.join_nil]), b14⟩
              case measure => simp [intOf]; omega
          · have e3 : decide ((q : Int) < n') = false := decide_eq_false (by omega)
            have HG := Lib.hid (show (S1 ++ ⟨#[]⟩).data.toList = textAt N (j + 1) by
              rw [bytesApp, HQ.out, HPT.out, HSG.out, List.take_of_length_le (l := x.2) (by have := HNX.out; omega)]; simp)
            have hzg : (S1 ++ ⟨#[]⟩).size ≤ 1000 * (j + 1) := by rw [sizeApp]; have : (⟨#[]⟩ : ByteArray).size = 0 := rfl; omega
            go_wp2_with fail
            go_roundw
            case rel => exact ⟨j + 1, _, by omega, by go_num, rfl, hzg, HG, hb2⟩
            case measure => simp [intOf]; omega
end Go.Proofs.YtlpkngjeihoknaaDoor
