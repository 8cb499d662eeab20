/- The statement AspathMerges: its walk. Conditions: the table of digits. -/
import Derived.Test.YtlpkngjeihoknaaDoorProg
import Derived.WalkKit
import Derived.WalkSpells
import Derived.WalkLawsBesides
import Derived.Outline
import Derived.Deep.QuietTactic
import Derived.BigQuiet
import Derived.Handy
import Derived.Lib.Hide
import Derived.Test.YtlpkngjeihoknaaDoorAspR
import Derived.Test.YtlpkngjeihoknaaDoorAspLawA
namespace Go.Proofs.YtlpkngjeihoknaaDoor
open Go.RowKit
set_option linter.unusedSimpArgs false
set_option linter.unusedVariables false
theorem countA_head : ∀ (l : List Seg) (n : Nat), n ≤ countA l → countA (headA l n) = n
  | [], n, h => by simp [countA] at h; simp [headA, countA, h]
  | x :: l, n, h => by
    rw [countA] at h
    rw [headA]
    by_cases h0 : n = 0
    · rw [if_pos h0, h0]; rfl
    · rw [if_neg h0]
      by_cases hk : x.1 = 1
      · rw [if_pos hk] at h
        rw [if_pos hk, countA, if_pos hk, countA_head l (n - 1) (by omega)]
        omega
      · rw [if_neg hk] at h
        rw [if_neg hk, countA, if_neg (by exact hk), countA_head l (n - min n x.2.length) (by omega), List.length_take]
        omega
theorem mergeA_count (l more : List Seg) : countA (mergeA l more) = countA l := by
  by_cases h : more = [] ∨ rightA l = false ∨ rightA more = false ∨ countA l < countA more
  · rw [mergeA_no h]
  · rw [mergeA_yes h]
    split
    · rw [countA_app, countA_head l _ (by omega)]
      omega
    · rfl
theorem mergeA_bd {l more : List Seg} (h1 : l.length ≤ 12) (h2 : sumN l ≤ big32) : (mergeA l more).length ≤ 12 ∧ sumN (mergeA l more) ≤ big32 := by
  by_cases h : more = [] ∨ rightA l = false ∨ rightA more = false ∨ countA l < countA more
  · rw [mergeA_no h]; exact ⟨h1, h2⟩
  · rw [mergeA_yes h]
    split
    · rename_i hr
      have := rightA_of hr
      exact ⟨by omega, by unfold big32; omega⟩
    · exact ⟨h1, h2⟩
set_option maxHeartbeats 4000000 in
set_option maxRecDepth 100000 in
theorem lawAspathMerges (w : World) (A : Option Addr) (n c : Nat) (l : List Seg) (hd : DL rSeg 2 w (Lo w) A n l) (wc : n ≤ c) (wm : c ≤ maxLen) (hx : ∀ x ∈ l, x.2.length ≤ big32) (A' : Option Addr) (n' c' : Nat) (l' : List Seg) (hd' : DL rSeg 2 w (Lo w) A' n' l') (wc' : n' ≤ c') (wm' : c' ≤ maxLen) (hx' : ∀ x ∈ l', x.2.length ≤ big32) (ht : DigTab w) :
    Calls Tryd.prog 6 #[.slice A n c, .slice A' n' c'] w fun en w' => en = .returned (.bool true) ∧ Below w.heap.size w w' := by
  obtain ⟨r, hr⟩ : ∃ r, fewA l = r := ⟨_, rfl⟩
  obtain ⟨r', hr'⟩ : ∃ r, fewA l' = r := ⟨_, rfl⟩
  have HFW := Lib.hid (show ∀ w, DL rSeg 2 w (Lo w) A n l → Calls Tryd.prog 16 #[.slice A n c] w fun en w' => en = .returned (.bool r) ∧ Below w.heap.size w w' from fun w hd => by rw [← hr]; exact law03Few A n c l w hd)
  have HFW' := Lib.hid (show ∀ w, DL rSeg 2 w (Lo w) A' n' l' → Calls Tryd.prog 16 #[.slice A' n' c'] w fun en w' => en = .returned (.bool r') ∧ Below w.heap.size w w' from fun w hd => by rw [← hr']; exact law03Few A' n' c' l' w hd)
  cases r
  · clear hr hx wc wm hr' hx' wc' wm'
    go_enter Tryd.func6, Tryd.ntmps6
    go_wp2_with fail
    refine (HFW.out _ hd).mono ?_
    rintro _ w1 ⟨rfl, b1⟩
    have b01 := b1
    go_wp2_with fail
    refine (awake03 _ (ht.call b01)).mono ?_
    rintro _ w2 ⟨rfl, b2⟩
    have b02 := btr b01 b2 b01.size
    go_wp2_with fail
    go_ret
    exact ⟨rfl, b02⟩
  cases r'
  · clear hr hx wc wm hr' hx' wc' wm'
    go_enter Tryd.func6, Tryd.ntmps6
    go_wp2_with fail
    refine (HFW.out _ hd).mono ?_
    rintro _ w1 ⟨rfl, b1⟩
    have b01 := b1
    go_wp2_with fail
    refine (HFW'.out _ (hd'.segB b01)).mono ?_
    rintro _ w2 ⟨rfl, b2⟩
    have b02 := btr b01 b2 b01.size
    go_wp2_with fail
    refine (awake03 _ (ht.call b02)).mono ?_
    rintro _ w3 ⟨rfl, b3⟩
    have b03 := btr b02 b3 b02.size
    go_wp2_with fail
    go_ret
    exact ⟨rfl, b03⟩
  obtain ⟨hn, HS⟩ := few_of hr hx hd.len
  obtain ⟨hn', HS'⟩ := few_of hr' hx' hd'.len
  have hn1 : n ≤ 100000 := by omega
  have hn2 : n' ≤ 100000 := by omega
  have hbd := mergeA_bd (l := l) (more := l') (by rw [← hd.len]; exact hn) HS.out
  have hcnt := mergeA_count l l'
  obtain ⟨M, hM⟩ : ∃ M, mergeA l l' = M := ⟨_, rfl⟩
  obtain ⟨ct, hct⟩ : ∃ f : Int, (countA l : Int) = f := ⟨_, rfl⟩
  rw [hM] at hbd hcnt
  have HL := Lib.hid hbd.1
  have HSM := Lib.hid hbd.2
  have H1 := Lib.hid (show ∀ w, DL rSeg 2 w (Lo w) A n l → DL rSeg 2 w (Lo w) A' n' l' → Calls Tryd.prog 26 #[.slice A n c, .slice A' n' c'] w (RetP w M) from fun w hd hd' => by rw [← hM]; exact aspMerge A n c l A' n' c' l' w hd hd' hn1 hn2 HS HS')
  have H2 := Lib.hid (show ∀ w, DL rSeg 2 w (Lo w) A n l → DL rSeg 2 w (Lo w) A' n' l' → Calls Tryd.prog 27 #[.slice A n c, .slice A' n' c'] w (RetD w M) from fun w hd hd' => by rw [← hM]; exact refMerge03 A n c l A' n' c' l' w hd hd' hn1 hn2 HS HS')
  have H3 := Lib.hid (show ∀ w, DL rSeg 2 w (Lo w) A n l → Calls Tryd.prog 29 #[.slice A n c] w fun en w' => en = .returned (.int .i64 ct) ∧ Below w.heap.size w w' from fun w hd => by rw [← hct]; exact refCount03 A n c l w hd hn1 HS)
  have H4 := Lib.hid (show ∀ (w : World) (A : Option Addr) (n c : Nat), DL rSeg 2 w (Lo w) A n M → Calls Tryd.prog 28 #[.slice A n c] w fun en w' => en = .returned (.int .i64 ct) ∧ Below w.heap.size w w' from fun w A n c hd => by rw [← hct, ← hcnt]; exact aspCount A n c M w hd (by rw [hd.len]; have := HL.out; omega) HSM)
  have H5 := Lib.hid (show ∀ (w : World) (A A' : Option Addr) (n n' c c' : Nat), DL rSeg 2 w (Lo w) A n M → DL rSeg 2 w (Lo w) A' n' M → Calls Tryd.prog 22 #[.slice A n c, .slice A' n' c'] w fun en w' => en = .returned (.bool true) ∧ Below w.heap.size w w' from fun w A A' n n' c c' hd hd' => by
    have := refSame03 A A' n n' c c' M M w hd hd' (by rw [hd.len]; have := HL.out; omega) HSM
    rwa [beq_self_eq_true] at this)
  have e1 : (ct == ct) = true := by simp
  clear hr hx wc wm hr' hx' wc' wm' hM hct hcnt hbd hn hn' hn1 hn2 HS HS'
  go_enter Tryd.func6, Tryd.ntmps6
  go_wp2_with fail
  refine (HFW.out _ hd).mono ?_
  rintro _ w1 ⟨rfl, b1⟩
  have b01 := b1
  go_wp2_with fail
  refine (HFW'.out _ (hd'.segB b01)).mono ?_
  rintro _ w2 ⟨rfl, b2⟩
  have b02 := btr b01 b2 b01.size
  go_wp2_with fail
  refine (H1.out _ (hd.segB b02) (hd'.segB b02)).mono ?_
  rintro _ w3 ⟨A3, n3, c3, L3, rfl, o3, hL3, b3⟩
  have b03 := btr b02 b3 b02.size
  have D3 := o3.dl
  rw [hL3] at D3
  clear hL3
  go_wp2_with fail
  refine (H2.out _ (hd.segB b03) (hd'.segB b03)).mono ?_
  rintro _ w4 ⟨A4, n4, c4, rfl, D4, b4⟩
  have b04 := btr b03 b4 b03.size
  have D34 := D3.segB b4
  go_wp2_with fail
  refine (H5.out _ A3 A4 n3 n4 c3 c4 D34 D4).mono ?_
  rintro _ w5 ⟨rfl, b5⟩
  have b05 := btr b04 b5 b04.size
  have D35 := D34.segB b5
  go_wp2_with fail
  refine (H4.out _ A3 n3 c3 D35).mono ?_
  rintro _ w6 ⟨rfl, b6⟩
  have b06 := btr b05 b6 b05.size
  go_wp2_with fail
  refine (H3.out _ (hd.segB b06)).mono ?_
  rintro _ w7 ⟨rfl, b7⟩
  have b07 := btr b06 b7 b06.size
  go_wp2_with fail
  refine (awake03 _ (ht.call b07)).mono ?_
  rintro _ w8 ⟨rfl, b8⟩
  have b08 := btr b07 b8 b07.size
  go_wp2_with fail
  go_ret
  exact ⟨rfl, b08⟩
end Go.Proofs.YtlpkngjeihoknaaDoor
