/- Walks of layer 3 (paths): a narrow one and a wide one together. No conditions but sizes. -/
import Derived.Test.YtlpkngjeihoknaaDoorProg
import Derived.WalkKit
import Derived.WalkSpells
import Derived.WalkLawsBesides
import Derived.Outline
import Derived.Deep.QuietTactic
import Derived.BigQuiet
import Derived.Handy
import Derived.Lib.Hide
import Derived.Deep.DeepCutAuto
import Derived.Deep.CutBlock
import Derived.Test.YtlpkngjeihoknaaDoorAspP
namespace Go.Proofs.YtlpkngjeihoknaaDoor
open Go.RowKit
set_option linter.unusedSimpArgs false
set_option linter.unusedVariables false
theorem DL.segB2 {w w' : World} {A : Option Addr} {n : Nat} {l : List Seg} (h : DL rSeg 2 w (Lo w) A n l) (hb : Below w.heap.size w w') : DL rSeg 2 w' (Lo w') A n l := h.keep rSeg_ok (Kp.call hb)
/-- Two paths together. -/
def mergeA (l more : List Seg) : List Seg :=
  if more = [] ∨ rightA l = false ∨ rightA more = false ∨ countA l < countA more then l
  else if rightA (headA l (countA l - countA more) ++ more) = true then headA l (countA l - countA more) ++ more else l
theorem mergeA_no {l more : List Seg} (h : more = [] ∨ rightA l = false ∨ rightA more = false ∨ countA l < countA more) : mergeA l more = l := if_pos h
theorem mergeA_yes {l more : List Seg} (h : ¬ (more = [] ∨ rightA l = false ∨ rightA more = false ∨ countA l < countA more)) : mergeA l more = if rightA (headA l (countA l - countA more) ++ more) = true then headA l (countA l - countA more) ++ more else l := if_neg h
theorem headA_len : ∀ (l : List Seg) (n : Nat), (headA l n).length ≤ l.length
  | [], _ => by simp [headA]
  | x :: l, n => by
    rw [headA]
    split
    · simp
    · split
      · rw [List.length_cons, List.length_cons]; have := headA_len l (n - 1); omega
      · rw [List.length_cons, List.length_cons]; have := headA_len l (n - min n x.2.length); omega
theorem countA_le8 {l : List Seg} (h : rightA l = true) : countA l ≤ 72 := by
  have h1 := rightA_of h
  have h2 := countA_bd l
  omega
set_option maxHeartbeats 8000000 in
set_option maxRecDepth 100000 in
theorem aspMerge (A : Option Addr) (n c : Nat) (l : List Seg) (A' : Option Addr) (n' c' : Nat) (more : List Seg) (w : World) (hd : DL rSeg 2 w (Lo w) A n l) (hd' : DL rSeg 2 w (Lo w) A' n' more) (hn : n ≤ 100000) (hn' : n' ≤ 100000) (hs : Hid (sumN l ≤ big32)) (hs' : Hid (sumN more ≤ big32)) :
    Calls Tryd.prog 26 #[.slice A n c, .slice A' n' c'] w (RetP w (mergeA l more)) := by
  have HN := Lib.hid hd.len
  have HN' := Lib.hid hd'.len
  have HCO := Lib.hid (show ∀ w, DL rSeg 2 w (Lo w) A n l → Calls Tryd.prog 69 #[.slice A n c] w (RetP w l) from fun w hd => aspCopied A n c l w hd hn hs)
  by_cases h0 : n' = 0
  · have t0 : ((n' : Int) == 0) = true := by simp; omega
    have HM := Lib.hid (show mergeA l more = l from mergeA_no (.inl (List.eq_nil_of_length_eq_zero (by have := HN'.out; omega))))
    clear h0
    go_enter Tryd.func26, Tryd.ntmps26
    go_wp2_with fail
    refine (HCO.out _ hd).mono ?_
    rintro _ w1 ⟨A1, n1, c1, L1, rfl, o1, hL1, b1⟩
    have b01 := b1
    go_wp2_with fail
    go_ret
    exact ⟨A1, n1, c1, L1, rfl, o1, by rw [HM.out]; exact hL1, b01⟩
  have t0 : ((n' : Int) == 0) = false := by simp; omega
  have HNE := Lib.hid (show more ≠ [] from fun e => h0 (by have := HN'.out; rw [e] at this; exact this))
  obtain ⟨r1, hr1⟩ : ∃ r, rightA l = r := ⟨_, rfl⟩
  obtain ⟨r2, hr2⟩ : ∃ r, rightA more = r := ⟨_, rfl⟩
  have HR1 := Lib.hid (show ∀ w, DL rSeg 2 w (Lo w) A n l → Calls Tryd.prog 32 #[.slice A n c] w fun en w' => en = .returned (.bool r1) ∧ Below w.heap.size w w' from fun w hd => by rw [← hr1]; exact aspRight A n c l w hd hn)
  have HR2 := Lib.hid (show ∀ w, DL rSeg 2 w (Lo w) A' n' more → Calls Tryd.prog 32 #[.slice A' n' c'] w fun en w' => en = .returned (.bool r2) ∧ Below w.heap.size w w' from fun w hd => by rw [← hr2]; exact aspRight A' n' c' more w hd hn')
  clear h0
  cases r1
  · have HM := Lib.hid (show mergeA l more = l from mergeA_no (.inr (.inl hr1)))
    clear hr1 hr2
    go_enter Tryd.func26, Tryd.ntmps26
    go_wp2_with fail
    refine (HR1.out _ hd).mono ?_
    rintro _ w1 ⟨rfl, b1⟩
    have b01 := b1
    go_wp2_with fail
    refine (HCO.out _ (hd.segB2 b01)).mono ?_
    rintro _ w2 ⟨A1, n1, c1, L1, rfl, o1, hL1, b2⟩
    have b02 := btr b01 b2 b01.size
    go_wp2_with fail
    go_ret
    exact ⟨A1, n1, c1, L1, rfl, o1.low b1.size, by rw [HM.out]; exact hL1, b02⟩
  cases r2
  · have HM := Lib.hid (show mergeA l more = l from mergeA_no (.inr (.inr (.inl hr2))))
    clear hr1 hr2
    go_enter Tryd.func26, Tryd.ntmps26
    go_wp2_with fail
    refine (HR1.out _ hd).mono ?_
    rintro _ w1 ⟨rfl, b1⟩
    have b01 := b1
    go_wp2_with fail
    refine (HR2.out _ (hd'.segB2 b01)).mono ?_
    rintro _ w2 ⟨rfl, b2⟩
    have b02 := btr b01 b2 b01.size
    go_wp2_with fail
    refine (HCO.out _ (hd.segB2 b02)).mono ?_
    rintro _ w3 ⟨A1, n1, c1, L1, rfl, o1, hL1, b3⟩
    have b03 := btr b02 b3 b02.size
    go_wp2_with fail
    go_ret
    exact ⟨A1, n1, c1, L1, rfl, o1.low b02.size, by rw [HM.out]; exact hL1, b03⟩
  have HRL := Lib.hid hr1
  have hc1 := countA_le8 hr1
  have hc2 := countA_le8 hr2
  obtain ⟨C1, hC1⟩ : ∃ C, countA l = C := ⟨_, rfl⟩
  obtain ⟨C2, hC2⟩ : ∃ C, countA more = C := ⟨_, rfl⟩
  have HC1 := Lib.hid (show ∀ w, DL rSeg 2 w (Lo w) A n l → Calls Tryd.prog 28 #[.slice A n c] w fun en w' => en = .returned (.int .i64 (C1 : Int)) ∧ Below w.heap.size w w' from fun w hd => by rw [← hC1]; exact aspCount A n c l w hd hn hs)
  have HC2 := Lib.hid (show ∀ w, DL rSeg 2 w (Lo w) A' n' more → Calls Tryd.prog 28 #[.slice A' n' c'] w fun en w' => en = .returned (.int .i64 (C2 : Int)) ∧ Below w.heap.size w w' from fun w hd => by rw [← hC2]; exact aspCount A' n' c' more w hd hn' hs')
  rw [hC1] at hc1
  rw [hC2] at hc2
  by_cases hlt : C1 < C2
  · have t1 : decide (C1 < C2) = true := decide_eq_true hlt
    have HM := Lib.hid (show mergeA l more = l from mergeA_no (.inr (.inr (.inr (by omega)))))
    clear hr1 hr2 hC1 hC2 hc1 hc2 hlt
    go_enter Tryd.func26, Tryd.ntmps26
    go_wp2_with fail
    refine (HR1.out _ hd).mono ?_
    rintro _ w1 ⟨rfl, b1⟩
    have b01 := b1
    go_wp2_with fail
    refine (HR2.out _ (hd'.segB2 b01)).mono ?_
    rintro _ w2 ⟨rfl, b2⟩
    have b02 := btr b01 b2 b01.size
    go_wp2_with fail
    refine (HC2.out _ (hd'.segB2 b02)).mono ?_
    rintro _ w3 ⟨rfl, b3⟩
    have b03 := btr b02 b3 b02.size
    go_wp2_with fail
    refine (HC1.out _ (hd.segB2 b03)).mono ?_
    rintro _ w4 ⟨rfl, b4⟩
    have b04 := btr b03 b4 b03.size
    go_wp2_with fail
    refine (HCO.out _ (hd.segB2 b04)).mono ?_
    rintro _ w5 ⟨A1, n1, c1, L1, rfl, o1, hL1, b5⟩
    have b05 := btr b04 b5 b04.size
    go_wp2_with fail
    go_ret
    exact ⟨A1, n1, c1, L1, rfl, o1.low b04.size, by rw [HM.out]; exact hL1, b05⟩
  have t1 : decide (C1 < C2) = false := decide_eq_false hlt
  have HM := Lib.hid (show mergeA l more = if rightA (headA l (C1 - C2) ++ more) = true then headA l (C1 - C2) ++ more else l by
    rw [← hC1, ← hC2]
    exact mergeA_yes (by rw [hr1, hr2]; rintro (h | h | h | h); exact HNE.out h; cases h; cases h; omega))
  have wd : IntKind.i64.wrap ((C1 : Int) - (C2 : Int)) = ((C1 - C2 : Nat) : Int) := by rw [IntWalk.i64_in _ ⟨by omega, by omega⟩]; omega
  obtain ⟨Dn, hDn⟩ : ∃ D, C1 - C2 = D := ⟨_, rfl⟩
  rw [hDn] at wd HM
  have hDb : Dn ≤ 1000 := by omega
  have HHD := Lib.hid (show ∀ w, DL rSeg 2 w (Lo w) A n l → Calls Tryd.prog 70 #[.slice A n c, .int .i64 (Dn : Int)] w (RetP w (headA l Dn)) from fun w hd => aspHead A n c l Dn w hd hn HRL hDb)
  have HCM := Lib.hid (show ∀ w, DL rSeg 2 w (Lo w) A' n' more → Calls Tryd.prog 69 #[.slice A' n' c'] w (RetP w more) from fun w hd => aspCopied A' n' c' more w hd hn' hs')
  have HLH := Lib.hid (headA_len l Dn)
  have HL8 := Lib.hid (show l.length ≤ 8 ∧ more.length ≤ 8 from ⟨(rightA_of hr1).2.2, (rightA_of hr2).2.2⟩)
  clear hr1 hr2 hC1 hC2 hc1 hc2 hlt hDn hDb
  go_enter Tryd.func26, Tryd.ntmps26
  go_wp2_with fail
  refine (HR1.out _ hd).mono ?_
  rintro _ w1 ⟨rfl, b1⟩
  have b01 := b1
  go_wp2_with fail
  refine (HR2.out _ (hd'.segB2 b01)).mono ?_
  rintro _ w2 ⟨rfl, b2⟩
  have b02 := btr b01 b2 b01.size
  go_wp2_with fail
  refine (HC2.out _ (hd'.segB2 b02)).mono ?_
  rintro _ w3 ⟨rfl, b3⟩
  have b03 := btr b02 b3 b02.size
  go_wp2_with fail
  refine (HC1.out _ (hd.segB2 b03)).mono ?_
  rintro _ w4 ⟨rfl, b4⟩
  have b04 := btr b03 b4 b03.size
  go_wp2_with fail
  refine (HC1.out _ (hd.segB2 b04)).mono ?_
  rintro _ w5 ⟨rfl, b5⟩
  have b05 := btr b04 b5 b04.size
  go_wp2_with fail
  refine (HC2.out _ (hd'.segB2 b05)).mono ?_
  rintro _ w6 ⟨rfl, b6⟩
  have b06 := btr b05 b6 b05.size
  go_wp2_with fail
  refine (HHD.out _ (hd.segB2 b06)).mono ?_
  rintro _ w7 ⟨A7, n7, c7, L7, rfl, o7, hL7, b7⟩
  have b07 := btr b06 b7 b06.size
  have HL7 := Lib.hid hL7
  clear hL7
  have o7w := o7.low b06.size
  have D7 := hd'.segB2 b07
  go_wp2_with fail
  refine (HCM.out _ D7).mono ?_
  rintro _ w8 ⟨A8, n8, c8, L8, rfl, o8, hL8, b8⟩
  have HL8m := Lib.hid hL8
  clear hL8
  have b08 := btr b07 b8 b07.size
  have o78 := o7w.call b8
  have o8w := o8.low b07.size
  have HAP := Lib.hid (fun z (hz : z ∈ L7) y (hy : y ∈ L8) => (o7w.apt (y := y) (o8.2.2.1 y hy) (Nat.le_refl _)) z hz)
  have HML := Lib.hid o8.1
  have hn7 : n7 ≤ 8 := by have h1 := o7.1; have h2 := congrArg List.length HL7.out; rw [List.length_map] at h2; have h3 := HLH.out; have h4 := HL8.out.1; omega
  have hn8 : n8 ≤ 8 := by have h1 := o8.1; have h2 := congrArg List.length HL8m.out; rw [List.length_map] at h2; have h4 := HL8.out.2; omega
  go_upto_region 4 with (at_builtin; refine wpl_appR rfl (.tmp 34) (.tmp 36) 22 rfl 73 _ 2 32 Tryd.underlying22 seg_info rfl (by omega) w.heap.size A7 n7 c7 _ (by rfl) o78.2.1 w8.heap.size A8 n8 c8 (segsC L8) (by rfl) o8.reads segsC_one1 (by unfold maxLen; omega) (by omega) b08.size ?_; intro A9 c9 w9 o9 b9 g9 _)
  have hO9 := o78.pushAll (M := L8) HML.out (fun y hy => o8w.2.2.1 y hy) o8.2.2.2 HAP.out o9 g9
  have b09 := b08.trans b9
  have HLL := Lib.hid (show (L7 ++ L8).map (·.1) = headA l Dn ++ more by rw [List.map_append, HL7.out, HL8m.out])
  have D9 := hO9.dl
  rw [HLL.out] at D9
  have hn9 : n7 + n8 ≤ 100000 := by omega
  obtain ⟨r3, hr3⟩ : ∃ r, rightA (headA l Dn ++ more) = r := ⟨_, rfl⟩
  have HR3 := aspRight A9 (n7 + n8) c9 _ w9 D9 hn9
  rw [hr3] at HR3
  have HR3' := Lib.hid HR3
  clear HR3
  cases r3
  · have HM2 := Lib.hid (show mergeA l more = l by rw [HM.out, hr3]; rfl)
    clear hr3
    go_wp2_with fail
    refine HR3'.out.mono ?_
    rintro _ w10 ⟨rfl, b10⟩
    have b010 := btr b09 b10 b09.size
    go_wp2_with fail
    refine (HCO.out _ (hd.segB2 b010)).mono ?_
    rintro _ w11 ⟨A1, n1, c1, L1, rfl, o1, hL1, b11⟩
    go_wp2_with fail
    go_ret
    exact ⟨A1, n1, c1, L1, rfl, o1.low b010.size, by rw [HM2.out]; exact hL1, btr b010 b11 b010.size⟩
  · have HM2 := Lib.hid (show mergeA l more = headA l Dn ++ more by rw [HM.out, hr3, if_pos rfl])
    clear hr3
    go_wp2_with fail
    refine HR3'.out.mono ?_
    rintro _ w10 ⟨rfl, b10⟩
    have b010 := btr b09 b10 b09.size
    have hO10 := hO9.call b10
    go_wp2_with fail
    go_ret
    exact ⟨A9, n7 + n8, c9, L7 ++ L8, rfl, hO10, by rw [HM2.out]; exact HLL.out, b010⟩
end Go.Proofs.YtlpkngjeihoknaaDoor
