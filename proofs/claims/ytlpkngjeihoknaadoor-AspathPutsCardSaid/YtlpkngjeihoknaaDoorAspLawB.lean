/- The statement AspathPuts: its walk. Conditions: the table of digits. -/
import Derived.Test.YtlpkngjeihoknaaDoorProg
import Derived.WalkKit
import Derived.WalkSpells
import Derived.WalkLawsBesides
import Derived.Outline
import Derived.Deep.QuietTactic
import Derived.BigQuiet
import Derived.Handy
import Derived.Lib.Hide
import Derived.Test.YtlpkngjeihoknaaDoorAspU
import Derived.Test.YtlpkngjeihoknaaDoorAspW
import Derived.Test.YtlpkngjeihoknaaDoorAspLawA
import Derived.Test.YtlpkngjeihoknaaDoorAspLawE
namespace Go.Proofs.YtlpkngjeihoknaaDoor
open Go.RowKit
set_option linter.unusedSimpArgs false
set_option linter.unusedVariables false
set_option maxHeartbeats 4000000 in
set_option maxRecDepth 100000 in
theorem lawAspathPuts (w : World) (A : Option Addr) (n c : Nat) (l : List Seg) (hd : DL rSeg 2 w (Lo w) A n l) (wc : n ≤ c) (wm : c ≤ maxLen) (hx : ∀ x ∈ l, x.2.length ≤ big32) (wide : Bool) (ht : DigTab w) :
    Calls Tryd.prog 8 #[.slice A n c, .bool wide] w fun en w' => en = .returned (.bool true) ∧ Below w.heap.size w w' := by
  obtain ⟨r, hr⟩ : ∃ r, fewA l = r := ⟨_, rfl⟩
  have HFW := Lib.hid (show ∀ w, DL rSeg 2 w (Lo w) A n l → Calls Tryd.prog 16 #[.slice A n c] w fun en w' => en = .returned (.bool r) ∧ Below w.heap.size w w' from fun w hd => by rw [← hr]; exact law03Few A n c l w hd)
  cases r
  · clear hr hx wc wm
    go_enter Tryd.func8, Tryd.ntmps8
    go_wp2_with fail
    refine (HFW.out _ hd).mono ?_
    rintro _ w1 ⟨rfl, b1⟩
    have b01 := b1
    go_wp2_with fail
    refine (awake03 _ (ht.call b01)).mono ?_
    rintro _ w2 ⟨rfl, b2⟩
    have b02 := btr b01 b2 b01.size
    go_wp2_with fail
    go_ret
    exact ⟨rfl, b02⟩
  obtain ⟨hn, HS⟩ := few_of hr hx hd.len
  have hn1 : n ≤ 100000 := by omega
  have hbl : (putA wide l).length ≤ 140737488355300 := by
    have h1 := putA_len wide l
    have h2 := HS.out
    have h3 := hd.len
    unfold big32 at h2
    omega
  obtain ⟨P, hP⟩ : ∃ P, putA wide l = P := ⟨_, rfl⟩
  obtain ⟨o, ho⟩ : ∃ o, readA wide P = o := ⟨_, rfl⟩
  obtain ⟨ra, h3⟩ : ∃ f, rightA l = f := ⟨_, rfl⟩
  have HRP := Lib.hid (show ra = true → o = some (l.map (nseg wide)) from fun e => by rw [← ho, ← hP]; exact read_put wide (by rw [h3, e]) hd.wf)
  have H1 := Lib.hid (show ∀ w, DL rSeg 2 w (Lo w) A n l → Calls Tryd.prog 38 #[.slice A n c, .bool wide] w (RetB w 5 P) from fun w hd => by rw [← hP]; exact aspPut A n c l wide w hd hn HS)
  have H2 := Lib.hid (show ∀ w, DL rSeg 2 w (Lo w) A n l → Calls Tryd.prog 40 #[.slice A n c, .bool wide] w (RetB w 5 P) from fun w hd => by rw [← hP]; exact refPut03 A n c l wide w hd hn HS)
  have HPN := Lib.hid (show P.length ≤ 140737488355300 by rw [← hP]; exact hbl)
  have H3 := Lib.hid (show ∀ (w : World) (A A' : Option Addr) (n n' c c' : Nat), BS w w.heap.size A n P → BS w w.heap.size A' n' P → Calls Tryd.prog 39 #[.slice A n c, .slice A' n' c'] w fun en w' => en = .returned (.bool true) ∧ w = w' from fun w A A' n n' c c' h h' => by
    have := ref01Same A A' n n' c c' P P w _ _ h h'
    rwa [beq_self_eq_true] at this)
  have H4 := Lib.hid (show ∀ (w : World) (A : Option Addr) (n c : Nat), BS w w.heap.size A n P → Calls Tryd.prog 41 #[.slice A n c, .bool wide] w (RetRd w o) from fun w A n c h => by rw [← ho]; exact aspRead A n c P wide w h (by rw [h.len]; have := HPN.out; omega))
  have HR2 := Lib.hid (show ∀ w, DL rSeg 2 w (Lo w) A n l → Calls Tryd.prog 20 #[.slice A n c] w fun en w' => en = .returned (.bool ra) ∧ Below w.heap.size w w' from fun w hd => by rw [← h3]; exact refRight03 A n c l w hd hn1)
  cases ra
  · cases o with
    | none =>
      clear hr hx wc wm h3 hn hn1 HS hbl hP ho HRP
      go_enter Tryd.func8, Tryd.ntmps8
      go_wp2_with fail
      refine (HFW.out _ hd).mono ?_
      rintro _ w1 ⟨rfl, b1⟩
      have b01 := b1
      go_wp2_with fail
      refine (H1.out _ (hd.segB b01)).mono ?_
      rintro _ w2 ⟨A3, n3, c3, rfl, o3, b2⟩
      have b02 := btr b01 b2 b01.size
      go_wp2_with fail
      refine (H2.out _ (hd.segB b02)).mono ?_
      rintro _ w3 ⟨A4, n4, c4, rfl, o4, b3⟩
      have b03 := btr b02 b3 b02.size
      go_wp2_with fail
      refine (H3.out _ A3 A4 n3 n4 c3 c4 (o3.bs.call b3) o4.bs).mono ?_
      rintro _ _ ⟨rfl, rfl⟩
      go_wp2_with fail
      refine (H4.out _ A3 n3 c3 (o3.bs.call b3)).mono ?_
      rintro _ w5 ⟨b5, rfl⟩
      have b05 := btr b03 b5 b03.size
      go_wp2_with fail
      refine (HR2.out _ (hd.segB b05)).mono ?_
      rintro _ w6 ⟨rfl, b6⟩
      have b06 := btr b05 b6 b05.size
      go_wp2_with fail
      refine (awake03 _ (ht.call b06)).mono ?_
      rintro _ w7 ⟨rfl, b7⟩
      have b07 := btr b06 b7 b06.size
      go_wp2_with fail
      go_ret
      exact ⟨rfl, b07⟩
    | some M =>
      clear hr hx wc wm h3 hn hn1 HS hbl hP ho HRP
      go_enter Tryd.func8, Tryd.ntmps8
      go_wp2_with fail
      refine (HFW.out _ hd).mono ?_
      rintro _ w1 ⟨rfl, b1⟩
      have b01 := b1
      go_wp2_with fail
      refine (H1.out _ (hd.segB b01)).mono ?_
      rintro _ w2 ⟨A3, n3, c3, rfl, o3, b2⟩
      have b02 := btr b01 b2 b01.size
      go_wp2_with fail
      refine (H2.out _ (hd.segB b02)).mono ?_
      rintro _ w3 ⟨A4, n4, c4, rfl, o4, b3⟩
      have b03 := btr b02 b3 b02.size
      go_wp2_with fail
      refine (H3.out _ A3 A4 n3 n4 c3 c4 (o3.bs.call b3) o4.bs).mono ?_
      rintro _ _ ⟨rfl, rfl⟩
      go_wp2_with fail
      refine (H4.out _ A3 n3 c3 (o3.bs.call b3)).mono ?_
      rintro _ w5 ⟨b5, A5, n5, c5, L5, rfl, o5, hL5⟩
      have b05 := btr b03 b5 b03.size
      go_wp2_with fail
      refine (HR2.out _ (hd.segB b05)).mono ?_
      rintro _ w6 ⟨rfl, b6⟩
      have b06 := btr b05 b6 b05.size
      go_wp2_with fail
      refine (awake03 _ (ht.call b06)).mono ?_
      rintro _ w7 ⟨rfl, b7⟩
      have b07 := btr b06 b7 b06.size
      go_wp2_with fail
      go_ret
      exact ⟨rfl, b07⟩
  obtain ⟨M, hM⟩ : ∃ M, l.map (nseg wide) = M := ⟨_, rfl⟩
  have ho1 : o = some M := by rw [HRP.out rfl, hM]
  subst ho1
  obtain ⟨ct, hct⟩ : ∃ f : Int, (countA l : Int) = f := ⟨_, rfl⟩
  have hrr := rightA_of h3
  have HMN := Lib.hid (show M.length = n by rw [← hM, List.length_map, hd.len])
  have H5 := Lib.hid (show ∀ w, DL rSeg 2 w (Lo w) A n l → Calls Tryd.prog 29 #[.slice A n c] w fun en w' => en = .returned (.int .i64 ct) ∧ Below w.heap.size w w' from fun w hd => by rw [← hct]; exact refCount03 A n c l w hd hn1 HS)
  have HSM := Lib.hid (show sumN M ≤ big32 by rw [← hM, nseg_sum]; exact HS.out)
  have H6 := Lib.hid (show ∀ (w : World) (A : Option Addr) (c : Nat), DL rSeg 2 w (Lo w) A n M → Calls Tryd.prog 28 #[.slice A n c] w fun en w' => en = .returned (.int .i64 ct) ∧ Below w.heap.size w w' from fun w A c hd => by rw [← hct, ← nseg_count wide, hM]; exact aspCount A n c M w hd hn1 HSM)
  have H7 := Lib.hid (show wide = true → ∀ (w : World) (A A' : Option Addr) (c c' : Nat), DL rSeg 2 w (Lo w) A n M → DL rSeg 2 w (Lo w) A' n l → Calls Tryd.prog 22 #[.slice A n c, .slice A' n c'] w fun en w' => en = .returned (.bool true) ∧ Below w.heap.size w w' from fun e w A A' c c' hd hd' => by
    have := refSame03 A A' n n c c' M l w hd hd' hn1 HSM
    have hMl : M = l := by rw [← hM, e, nseg_wide]
    rw [hMl, beq_self_eq_true] at this
    exact this)
  have e1 : (ct == ct) = true := by simp
  have e2 : ((n : Int) == (n : Int)) = true := by simp
  clear hr hx wc wm h3 hn hn1 HS hbl hP ho HRP hM hct hrr
  cases wide
  · go_enter Tryd.func8, Tryd.ntmps8
    go_wp2_with fail
    refine (HFW.out _ hd).mono ?_
    rintro _ w1 ⟨rfl, b1⟩
    have b01 := b1
    go_wp2_with fail
    refine (H1.out _ (hd.segB b01)).mono ?_
    rintro _ w2 ⟨A3, n3, c3, rfl, o3, b2⟩
    have b02 := btr b01 b2 b01.size
    go_wp2_with fail
    refine (H2.out _ (hd.segB b02)).mono ?_
    rintro _ w3 ⟨A4, n4, c4, rfl, o4, b3⟩
    have b03 := btr b02 b3 b02.size
    go_wp2_with fail
    refine (H3.out _ A3 A4 n3 n4 c3 c4 (o3.bs.call b3) o4.bs).mono ?_
    rintro _ _ ⟨rfl, rfl⟩
    go_wp2_with fail
    refine (H4.out _ A3 n3 c3 (o3.bs.call b3)).mono ?_
    rintro _ w5 ⟨b5, A5, n5, c5, L5, rfl, o5, hL5⟩
    have D5 := o5.dl
    rw [hL5] at D5
    obtain rfl : n5 = n := by rw [D5.len]; exact HMN.out
    clear hL5
    have b05 := btr b03 b5 b03.size
    go_wp2_with fail
    refine (HR2.out _ (hd.segB b05)).mono ?_
    rintro _ w6 ⟨rfl, b6⟩
    have b06 := btr b05 b6 b05.size
    have D6 := D5.segB b6
    go_wp2_with fail
    refine (H6.out _ A5 c5 D6).mono ?_
    rintro _ w7 ⟨rfl, b7⟩
    have b07 := btr b06 b7 b06.size
    go_wp2_with fail
    refine (H5.out _ (hd.segB b07)).mono ?_
    rintro _ w8 ⟨rfl, b8⟩
    have b08 := btr b07 b8 b07.size
    go_wp2_with fail
    refine (awake03 _ (ht.call b08)).mono ?_
    rintro _ w9 ⟨rfl, b9⟩
    have b09 := btr b08 b9 b08.size
    go_wp2_with fail
    go_ret
    exact ⟨rfl, b09⟩
  · have H7b := Lib.hid (H7.out rfl)
    clear H7
    go_enter Tryd.func8, Tryd.ntmps8
    go_wp2_with fail
    refine (HFW.out _ hd).mono ?_
    rintro _ w1 ⟨rfl, b1⟩
    have b01 := b1
    go_wp2_with fail
    refine (H1.out _ (hd.segB b01)).mono ?_
    rintro _ w2 ⟨A3, n3, c3, rfl, o3, b2⟩
    have b02 := btr b01 b2 b01.size
    go_wp2_with fail
    refine (H2.out _ (hd.segB b02)).mono ?_
    rintro _ w3 ⟨A4, n4, c4, rfl, o4, b3⟩
    have b03 := btr b02 b3 b02.size
    go_wp2_with fail
    refine (H3.out _ A3 A4 n3 n4 c3 c4 (o3.bs.call b3) o4.bs).mono ?_
    rintro _ _ ⟨rfl, rfl⟩
    go_wp2_with fail
    refine (H4.out _ A3 n3 c3 (o3.bs.call b3)).mono ?_
    rintro _ w5 ⟨b5, A5, n5, c5, L5, rfl, o5, hL5⟩
    have D5 := o5.dl
    rw [hL5] at D5
    obtain rfl : n5 = n := by rw [D5.len]; exact HMN.out
    clear hL5
    have b05 := btr b03 b5 b03.size
    go_wp2_with fail
    refine (HR2.out _ (hd.segB b05)).mono ?_
    rintro _ w6 ⟨rfl, b6⟩
    have b06 := btr b05 b6 b05.size
    have D6 := D5.segB b6
    go_wp2_with fail
    refine (H6.out _ A5 c5 D6).mono ?_
    rintro _ w7 ⟨rfl, b7⟩
    have b07 := btr b06 b7 b06.size
    have D7 := D6.segB b7
    go_wp2_with fail
    refine (H5.out _ (hd.segB b07)).mono ?_
    rintro _ w8 ⟨rfl, b8⟩
    have b08 := btr b07 b8 b07.size
    have D8 := D7.segB b8
    go_wp2_with fail
    refine (H7b.out _ A5 A c5 c D8 (hd.segB b08)).mono ?_
    rintro _ w9 ⟨rfl, b9⟩
    have b09 := btr b08 b9 b08.size
    go_wp2_with fail
    refine (awake03 _ (ht.call b09)).mono ?_
    rintro _ w10 ⟨rfl, b10⟩
    have b010 := btr b09 b10 b09.size
    go_wp2_with fail
    go_ret
    exact ⟨rfl, b010⟩
end Go.Proofs.YtlpkngjeihoknaaDoor
