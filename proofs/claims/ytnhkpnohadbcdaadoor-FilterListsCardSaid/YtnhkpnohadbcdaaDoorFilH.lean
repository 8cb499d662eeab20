/- The walk of the document's Parse (layer 12). No conditions but sizes. -/
import Derived.Test.YtnhkpnohadbcdaaDoorProg
import Derived.WalkKit
import Derived.WalkSpells
import Derived.WalkLawsBesides
import Derived.Outline
import Derived.Deep.QuietTactic
import Derived.BigQuiet
import Derived.Handy
import Derived.Lib.Hide
import Derived.Deep.DeepCutAuto
import Derived.Deep.CutBlock
import Derived.Test.YtnhkpnohadbcdaaDoorFilG
import Derived.Test.YtnhkpnohadbcdaaDoorPfxQR
namespace Go.Proofs.YtnhkpnohadbcdaaDoor
open Go.RowKit
set_option linter.unusedSimpArgs false
theorem rg_search {l A : List UInt8} {pa pn : Nat} {ok : Bool} (hA : ∃ k, A = l.take k ∧ (32 : UInt8) ∉ A ∧ (l[k]? = some 32 ∨ (32 : UInt8) ∉ l)) (hp : PfA A pa pn ok)
    (h : ok = false ∨ ∀ x y : Nat, x < 33 → x ≤ y → y < 33 → rgRight pa pn x y = true → rgT pa pn x y ≠ l) : RgAns l 0 0 0 0 false := by
  refine .inr ⟨rfl, rfl, rfl, rfl, rfl, fun b m p q hb hr he => ?_⟩
  obtain ⟨k, rfl, hn, hk⟩ := hA
  have h32 : (32 : UInt8) ∈ l := by rw [← he]; simp [rgT]
  rcases hk with hk | hk
  · have e := sep_at hk
    rw [e] at he
    obtain ⟨e1, _⟩ := sep_split he (pfT_no32 _ _) hn
    obtain ⟨k', p', q', hk', hp', hq', _, h1, h2, hpr⟩ := rgRight_of hr
    have hk' : m = k' := by omega
    subst hk'
    have t0 : PfA (pfT b m) b m true := .inl ⟨rfl, hb, by omega, hpr, rfl⟩
    rw [e1] at t0
    have t := PfAns.one hp t0
    rcases h with h | h
    · rw [t.2.2] at h; cases h
    · refine h p q (by omega) (by omega) (by omega) (by rw [t.1, t.2.1]; exact hr) ?_
      rw [t.1, t.2.1]
      exact he.trans e.symm
  · exact hk h32
set_option maxHeartbeats 4000000 in
set_option maxRecDepth 100000 in
theorem ref12Parse (s : ByteArray) (w : World) (hl : s.size ≤ 2000) :
    Calls Tryd.prog 50 #[.string s] w (RetRg w s.data.toList) := by
  have hs0 : (s.size : Int) ≤ 2000 := by omega
  obtain ⟨W, hW, hB, hN, b0⟩ := box2c w #[.int .u32 0, .int .i64 0, .int .i64 0, .int .i64 0] #[.int .u32 0, .int .i64 0, .int .i64 0, .int .i64 0] 47 47
  have hW' := Lib.hid hW
  have hgl := hN.lt
  clear hW
  go_enter Tryd.func50, Tryd.ntmps50
  go_upto_block 0 with fail
  go_cut [5] (fun s5 wx => ∃ k : Nat, k ≤ s.size ∧ s5 = .int .i64 k ∧ wx = W ∧ Hid ((32 : UInt8) ∉ s.data.toList.take k) ∧ Hid (s.data.toList[k]? = some 32 ∨ (32 : UInt8) ∉ s.data.toList))
  case first =>
    go_wp2_with fail
    go_loop [5] (fun i => ∃ k : Nat, k ≤ s.size ∧ i = .int .i64 k ∧ Hid ((32 : UInt8) ∉ s.data.toList.take k)) (fun i => s.size - (intOf i).toNat)
    case atStart => exact ⟨0, by omega, rfl, Lib.hid (by simp)⟩
    case round =>
      obtain ⟨k, hk, rfl, h0⟩ := hrel
      by_cases hlt : k < s.size
      · have hg0 := toL_get hlt
        have hge := congrArg UInt8.toNat (get_at s k hlt)
        rw [Nat.add_zero] at hge
        obtain ⟨x, hx⟩ : ∃ x, (s[k]'hlt).toNat = x := ⟨_, rfl⟩
        rw [hx] at hge
        by_cases h58 : x = 32
        · have HK := Lib.hid (show s.data.toList[k]? = some 32 by rw [hg0]; congr 1; exact UInt8.toNat_inj.1 (by rw [hge, h58]; rfl))
          subst h58
          clear hg0 hge
          go_wp2_with fail
          go_meet
          exact ⟨k, hk, rfl, hW'.out, h0, Lib.hid (.inl HK.out)⟩
        · have HN := Lib.hid (no_sign_step (g := 32) (e := k + 1) h0.out (fun j j1 j2 => by rw [show j = k by omega, hge]; exact h58))
          have ht1 : ((x : Int) != 32) = true := by simpa using (by omega : ¬ (x : Int) = 32)
          clear hg0 hge
          go_wp2_with fail
          go_round
          case rel => exact ⟨k + 1, by omega, by go_num, HN⟩
          case measure => simp [intOf]; omega
      · have HN := Lib.hid (show (32 : UInt8) ∉ s.data.toList by have := h0.out; rwa [List.take_of_length_le (by show s.size ≤ k; omega)] at this)
        have hki : ((k : Int) == s.size) = true := by simp; omega
        go_wp2_with fail
        go_meet
        exact ⟨k, hk, rfl, hW'.out, h0, Lib.hid (.inr HN.out)⟩
  case rest =>
    obtain ⟨k, hk, rfl, rfl, h0, h1⟩ := hcut
    have hp1 : (k : Int) ≤ (s.size : Int) := by omega
    go_wp2_with fail
    refine (ref02Parse (s.extract 0 k) _ (Nat.le_trans (ext_ahead_size s k) hl)).mono ?_
    rintro _ w1 ⟨pa, pn, ok, rfl, hP, b1⟩
    have b01 := btr b0 b1 b0.size
    have hB_1 := hB.below b1 hB.lt
    have hN_1 := hN.below b1 hN.lt
    rw [ext_ahead] at hP
    have hpl := hP.lt
    have hs1 : w.heap.size + 1 < w1.heap.size := Nat.lt_of_lt_of_le hgl b1.size
    have HS := Lib.hid (show ok = false ∨ (∀ x y : Nat, x < 33 → x ≤ y → y < 33 → rgRight pa pn x y = true → rgT pa pn x y ≠ s.data.toList) → RgAns s.data.toList 0 0 0 0 false from fun h => rg_search ⟨k, rfl, h0.out, h1.out⟩ hP h)
    clear hP
    cases ok
    · have HG := Lib.hid (HS.out (.inl rfl))
      clear HS
      go_wp2_with fail
      refine wp_loop_rounds 1 ?_
      rw [rounds_succ]
      obtain ⟨w2, hw2, b2, hB2, hN2, hP2⟩ : ∃ W, w1.alloc (.cells #[.int .u32 pa, .int .i64 pn] 24) = W ∧ Below w.heap.size w W ∧ Blk W w.heap.size 47 #[.int .u32 0, .int .i64 0, .int .i64 0, .int .i64 0] ∧ Blk W (w.heap.size + 1) 47 #[.int .u32 0, .int .i64 0, .int .i64 0, .int .i64 0] ∧ Blk W w1.heap.size 24 #[.int .u32 pa, .int .i64 pn] :=
        ⟨_, rfl, b01.alloc b01.size _, hB_1.alloc _, hN_1.alloc _, Blk.new _ _ _⟩
      rw [hw2]
      clear hw2
      have c_hB0 := hB2.cell 0
      have f_hB0 := hB2.frozen 0
      have c_hB1 := hB2.cell 1
      have f_hB1 := hB2.frozen 1
      have c_hB2 := hB2.cell 2
      have f_hB2 := hB2.frozen 2
      have c_hB3 := hB2.cell 3
      have f_hB3 := hB2.frozen 3
      have c_hN0 := hN2.cell 0
      have c_hN1 := hN2.cell 1
      have c_hN2 := hN2.cell 2
      have c_hN3 := hN2.cell 3
      go_wp2_with fail
      obtain ⟨w10, hw10⟩ : ∃ W, w2.setCell ⟨w.heap.size, 0, none⟩ (.int .u32 0) = W := ⟨_, rfl⟩
      have hB_10 := hB2.set_ 0 (.int .u32 0)
      simp only [List.setIfInBounds_toArray, List.set_cons_succ, List.set_cons_zero] at hB_10
      have hN_10 := hN2.far (p := ⟨w.heap.size, 0, none⟩) (by show _ ≠ w.heap.size; omega) (.int .u32 0)
      have b010 := b2.setCell (p := ⟨w.heap.size, 0, none⟩) (by show _ ≤ w.heap.size; omega) (.int .u32 0)
      rw [hw10] at hB_10 hN_10 b010
      rw [hw10]
      clear hw10
      clear c_hB0 f_hB0 c_hB1 f_hB1 c_hB2 f_hB2 c_hB3 f_hB3 c_hN0 c_hN1 c_hN2 c_hN3
      have c_hB0 := hB_10.cell 0
      have f_hB0 := hB_10.frozen 0
      have c_hB1 := hB_10.cell 1
      have f_hB1 := hB_10.frozen 1
      have c_hB2 := hB_10.cell 2
      have f_hB2 := hB_10.frozen 2
      have c_hB3 := hB_10.cell 3
      have f_hB3 := hB_10.frozen 3
      have c_hN0 := hN_10.cell 0
      have c_hN1 := hN_10.cell 1
      have c_hN2 := hN_10.cell 2
      have c_hN3 := hN_10.cell 3
      obtain ⟨w11, hw11⟩ : ∃ W, w10.setCell ⟨w.heap.size, 1, none⟩ (.int .i64 0) = W := ⟨_, rfl⟩
      have hB_11 := hB_10.set_ 1 (.int .i64 0)
      simp only [List.setIfInBounds_toArray, List.set_cons_succ, List.set_cons_zero] at hB_11
      have hN_11 := hN_10.far (p := ⟨w.heap.size, 1, none⟩) (by show _ ≠ w.heap.size; omega) (.int .i64 0)
      have b011 := b010.setCell (p := ⟨w.heap.size, 1, none⟩) (by show _ ≤ w.heap.size; omega) (.int .i64 0)
      rw [hw11] at hB_11 hN_11 b011
      rw [hw11]
      clear hw11
      clear c_hB0 f_hB0 c_hB1 f_hB1 c_hB2 f_hB2 c_hB3 f_hB3 c_hN0 c_hN1 c_hN2 c_hN3
      clear hB_10
      clear hN_10
      have c_hB0 := hB_11.cell 0
      have f_hB0 := hB_11.frozen 0
      have c_hB1 := hB_11.cell 1
      have f_hB1 := hB_11.frozen 1
      have c_hB2 := hB_11.cell 2
      have f_hB2 := hB_11.frozen 2
      have c_hB3 := hB_11.cell 3
      have f_hB3 := hB_11.frozen 3
      have c_hN0 := hN_11.cell 0
      have c_hN1 := hN_11.cell 1
      have c_hN2 := hN_11.cell 2
      have c_hN3 := hN_11.cell 3
      obtain ⟨w12, hw12⟩ : ∃ W, w11.setCell ⟨w.heap.size, 2, none⟩ (.int .i64 0) = W := ⟨_, rfl⟩
      have hB_12 := hB_11.set_ 2 (.int .i64 0)
      simp only [List.setIfInBounds_toArray, List.set_cons_succ, List.set_cons_zero] at hB_12
      have hN_12 := hN_11.far (p := ⟨w.heap.size, 2, none⟩) (by show _ ≠ w.heap.size; omega) (.int .i64 0)
      have b012 := b011.setCell (p := ⟨w.heap.size, 2, none⟩) (by show _ ≤ w.heap.size; omega) (.int .i64 0)
      rw [hw12] at hB_12 hN_12 b012
      rw [hw12]
      clear hw12
      clear c_hB0 f_hB0 c_hB1 f_hB1 c_hB2 f_hB2 c_hB3 f_hB3 c_hN0 c_hN1 c_hN2 c_hN3
      clear hB_11
      clear hN_11
      have c_hB0 := hB_12.cell 0
      have f_hB0 := hB_12.frozen 0
      have c_hB1 := hB_12.cell 1
      have f_hB1 := hB_12.frozen 1
      have c_hB2 := hB_12.cell 2
      have f_hB2 := hB_12.frozen 2
      have c_hB3 := hB_12.cell 3
      have f_hB3 := hB_12.frozen 3
      have c_hN0 := hN_12.cell 0
      have c_hN1 := hN_12.cell 1
      have c_hN2 := hN_12.cell 2
      have c_hN3 := hN_12.cell 3
      obtain ⟨w13, hw13⟩ : ∃ W, w12.setCell ⟨w.heap.size, 3, none⟩ (.int .i64 0) = W := ⟨_, rfl⟩
      have hB_13 := hB_12.set_ 3 (.int .i64 0)
      simp only [List.setIfInBounds_toArray, List.set_cons_succ, List.set_cons_zero] at hB_13
      have hN_13 := hN_12.far (p := ⟨w.heap.size, 3, none⟩) (by show _ ≠ w.heap.size; omega) (.int .i64 0)
      have b013 := b012.setCell (p := ⟨w.heap.size, 3, none⟩) (by show _ ≤ w.heap.size; omega) (.int .i64 0)
      rw [hw13] at hB_13 hN_13 b013
      rw [hw13]
      clear hw13
      clear c_hB0 f_hB0 c_hB1 f_hB1 c_hB2 f_hB2 c_hB3 f_hB3 c_hN0 c_hN1 c_hN2 c_hN3
      clear hB_12
      clear hN_12
      have c_hB0 := hB_13.cell 0
      have f_hB0 := hB_13.frozen 0
      have c_hB1 := hB_13.cell 1
      have f_hB1 := hB_13.frozen 1
      have c_hB2 := hB_13.cell 2
      have f_hB2 := hB_13.frozen 2
      have c_hB3 := hB_13.cell 3
      have f_hB3 := hB_13.frozen 3
      have c_hN0 := hN_13.cell 0
      have c_hN1 := hN_13.cell 1
      have c_hN2 := hN_13.cell 2
      have c_hN3 := hN_13.cell 3
      exact bodyPost_ret (rg_ret2 rfl _ _ w.heap.size _ _ _ _ rfl hB_13) rfl ⟨0, 0, 0, 0, false, rfl, by omega, HG.out, b013⟩
    go_wp2_with fail
    obtain ⟨w2, hw2, b2, hB2, hN2, hP2⟩ : ∃ W, w1.alloc (.cells #[.int .u32 pa, .int .i64 pn] 24) = W ∧ Below w.heap.size w W ∧ Blk W w.heap.size 47 #[.int .u32 0, .int .i64 0, .int .i64 0, .int .i64 0] ∧ Blk W (w.heap.size + 1) 47 #[.int .u32 0, .int .i64 0, .int .i64 0, .int .i64 0] ∧ Blk W w1.heap.size 24 #[.int .u32 pa, .int .i64 pn] :=
      ⟨_, rfl, b01.alloc b01.size _, hB_1.alloc _, hN_1.alloc _, Blk.new _ _ _⟩
    rw [hw2]
    clear hw2
    go_loopw [8] (fun i wr => ∃ x : Nat, x ≤ 33 ∧ i = .int .i64 x ∧ Below w.heap.size w wr ∧ Blk wr w.heap.size 47 #[.int .u32 0, .int .i64 0, .int .i64 0, .int .i64 0] ∧ Blk wr (w.heap.size + 1) 47 #[.int .u32 0, .int .i64 0, .int .i64 0, .int .i64 0] ∧ Blk wr w1.heap.size 24 #[.int .u32 pa, .int .i64 pn] ∧ Hid (∀ p q : Nat, p < x → p ≤ q → q < 33 → rgRight pa pn p q = true → rgT pa pn p q ≠ s.data.toList)) (fun i _ => 33 - (intOf i).toNat)
    case atStart => exact ⟨0, by omega, rfl, b2, hB2, hN2, hP2, Lib.hid fun p q h => by omega⟩
    case round =>
      obtain ⟨x, hx, rfl, b3, hB3, hN3, hP3, h3⟩ := hrel
      obtain ⟨w3, rfl⟩ : ∃ wo : World, wo = wr := ⟨_, rfl⟩
      by_cases hlt : x < 33
      · have hle : (x : Int) ≤ 32 := by omega
        have hd : decide ((x : Int) ≤ 32) = true := decide_eq_true hle
        go_wp2_with fail
        go_loopw [9] (fun i wr => ∃ y : Nat, x ≤ y ∧ y ≤ 33 ∧ i = .int .i64 y ∧ Below w.heap.size w wr ∧ Blk wr w.heap.size 47 #[.int .u32 0, .int .i64 0, .int .i64 0, .int .i64 0] ∧ Blk wr (w.heap.size + 1) 47 #[.int .u32 0, .int .i64 0, .int .i64 0, .int .i64 0] ∧ Blk wr w1.heap.size 24 #[.int .u32 pa, .int .i64 pn] ∧ Hid (∀ q : Nat, x ≤ q → q < y → rgRight pa pn x q = true → rgT pa pn x q ≠ s.data.toList)) (fun i _ => 33 - (intOf i).toNat)
        case atStart => exact ⟨x, Nat.le_refl _, by omega, rfl, b3, hB3, hN3, hP3, Lib.hid fun q h1 h2 => by omega⟩
        case round =>
          obtain ⟨y, hxy, hy, rfl, b4, hB4, hN4, hP4, h4⟩ := hrel
          obtain ⟨w4, rfl⟩ : ∃ wo : World, wo = wr := ⟨_, rfl⟩
          clear b3 hB3 hN3 hP3
          by_cases hlt2 : y < 33
          · have hle2 : (y : Int) ≤ 32 := by omega
            have hd2 : decide ((y : Int) ≤ 32) = true := decide_eq_true hle2
            have c0 := hP4.cell 0
            have c1 := hP4.cell 1
            go_wp2_with fail
            have hl4 := hN4.lt
            obtain ⟨w5, hw5, b5, hB5, hN5, hP5, hX5⟩ : ∃ W, w4.alloc (.cells #[.int .u32 pa, .int .i64 pn, .int .i64 x, .int .i64 y] 47) = W ∧ Below w.heap.size w W ∧ Blk W w.heap.size 47 #[.int .u32 0, .int .i64 0, .int .i64 0, .int .i64 0] ∧ Blk W (w.heap.size + 1) 47 #[.int .u32 0, .int .i64 0, .int .i64 0, .int .i64 0] ∧ Blk W w1.heap.size 24 #[.int .u32 pa, .int .i64 pn] ∧ Blk W w4.heap.size 47 #[.int .u32 pa, .int .i64 pn, .int .i64 x, .int .i64 y] :=
              ⟨_, rfl, b4.alloc b4.size _, hB4.alloc _, hN4.alloc _, hP4.alloc _, Blk.new _ _ _⟩
            rw [hw5]
            clear hw5 c0 c1
            have c_hX0 := hX5.cell 0
            have c_hX1 := hX5.cell 1
            have c_hX2 := hX5.cell 2
            have c_hX3 := hX5.cell 3
            cases hr : rgRight pa pn x y
            · refine ((by rw [← hr]; exact ref12Right pa hpl.1 pn x y _ : Calls Tryd.prog 52 _ w5 fun en w' => en = .returned (.bool false) ∧ Below w5.heap.size w5 w')).mono ?_
              rintro _ w6 ⟨rfl, b6⟩
              clear c_hX0 c_hX1 c_hX2 c_hX3
              have b06 := btr b5 b6 b5.size
              have hB_6 := hB5.below b6 hB5.lt
              have hN_6 := hN5.below b6 hN5.lt
              have hP_6 := hP5.below b6 hP5.lt
              have hX_6 := hX5.below b6 hX5.lt
              have c_hX0 := hX_6.cell 0
              have c_hX1 := hX_6.cell 1
              have c_hX2 := hX_6.cell 2
              have c_hX3 := hX_6.cell 3
              go_wp2_with fail
              go_roundw
              case rel => exact ⟨y + 1, by omega, by omega, by go_num, b06, hB_6, hN_6, hP_6, Lib.hid fun q h1 h2 h5 => by
                rcases Nat.lt_or_ge q y with h | h
                · exact h4.out q h1 h h5
                · rw [show q = y by omega, hr] at h5; cases h5⟩
              case measure => simp [intOf]; omega
            obtain ⟨S, hS⟩ : ∃ S : ByteArray, S = ⟨(rgT pa pn x y).toArray⟩ := ⟨_, rfl⟩
            have hE : (S.toList == s.toList) = true ↔ rgT pa pn x y = s.data.toList := by rw [beq_iff_eq, hS, ByteArray.toList_mk, ByteArray.toList_eq]
            have HS1 := Lib.hid hS
            clear hS
            refine ((by rw [← hr]; exact ref12Right pa hpl.1 pn x y _ : Calls Tryd.prog 52 _ w5 fun en w' => en = .returned (.bool true) ∧ Below w5.heap.size w5 w')).mono ?_
            rintro _ w6 ⟨rfl, b6⟩
            clear c_hX0 c_hX1 c_hX2 c_hX3
            have b06 := btr b5 b6 b5.size
            have hB_6 := hB5.below b6 hB5.lt
            have hN_6 := hN5.below b6 hN5.lt
            have hP_6 := hP5.below b6 hP5.lt
            have hX_6 := hX5.below b6 hX5.lt
            have c_hX0 := hX_6.cell 0
            have c_hX1 := hX_6.cell 1
            have c_hX2 := hX_6.cell 2
            have c_hX3 := hX_6.cell 3
            cases hb : (S.toList == s.toList)
            · have HE := Lib.hid hE
              clear hE
              go_wp2_with fail
              refine (ref12Text_yes pa hpl.1 pn x y hpl.2 (by omega) (by omega) S _ hr HS1).mono ?_
              rintro _ w7 ⟨rfl, b7⟩
              clear c_hX0 c_hX1 c_hX2 c_hX3
              have b07 := btr b06 b7 b06.size
              have hB_7 := hB_6.below b7 hB_6.lt
              clear hB_6
              have hN_7 := hN_6.below b7 hN_6.lt
              clear hN_6
              have hP_7 := hP_6.below b7 hP_6.lt
              clear hP_6
              have hX_7 := hX_6.below b7 hX_6.lt
              clear hX_6
              have c_hX0 := hX_7.cell 0
              have c_hX1 := hX_7.cell 1
              have c_hX2 := hX_7.cell 2
              have c_hX3 := hX_7.cell 3
              go_wp2_with fail
              go_roundw
              case rel => exact ⟨y + 1, by omega, by omega, by go_num, b07, hB_7, hN_7, hP_7, Lib.hid fun q h1 h2 h5 => by
                rcases Nat.lt_or_ge q y with h | h
                · exact h4.out q h1 h h5
                · intro h6
                  rw [show q = y by omega] at h6
                  rw [HE.out.2 h6] at hb; cases hb⟩
              case measure => simp [intOf]; omega
            · have HG := Lib.hid (show RgAns s.data.toList pa pn x y true from .inl ⟨rfl, hpl.1, hr, hE.1 hb⟩)
              clear hE
              go_wp2_with fail
              refine (ref12Text_yes pa hpl.1 pn x y hpl.2 (by omega) (by omega) S _ hr HS1).mono ?_
              rintro _ w7 ⟨rfl, b7⟩
              clear c_hX0 c_hX1 c_hX2 c_hX3
              have b07 := btr b06 b7 b06.size
              have hB_7 := hB_6.below b7 hB_6.lt
              clear hB_6
              have hN_7 := hN_6.below b7 hN_6.lt
              clear hN_6
              have hP_7 := hP_6.below b7 hP_6.lt
              clear hP_6
              have hX_7 := hX_6.below b7 hX_6.lt
              clear hX_6
              have c_hX0 := hX_7.cell 0
              have c_hX1 := hX_7.cell 1
              have c_hX2 := hX_7.cell 2
              have c_hX3 := hX_7.cell 3
              have c_hB0 := hB_7.cell 0
              have f_hB0 := hB_7.frozen 0
              have c_hB1 := hB_7.cell 1
              have f_hB1 := hB_7.frozen 1
              have c_hB2 := hB_7.cell 2
              have f_hB2 := hB_7.frozen 2
              have c_hB3 := hB_7.cell 3
              have f_hB3 := hB_7.frozen 3
              go_wp2_with fail
              obtain ⟨w10, hw10⟩ : ∃ W, w7.setCell ⟨w.heap.size, 0, none⟩ (.int .u32 pa) = W := ⟨_, rfl⟩
              have hB_10 := hB_7.set_ 0 (.int .u32 pa)
              simp only [List.setIfInBounds_toArray, List.set_cons_succ, List.set_cons_zero] at hB_10
              have hN_10 := hN_7.far (p := ⟨w.heap.size, 0, none⟩) (by show _ ≠ w.heap.size; omega) (.int .u32 pa)
              have hP_10 := hP_7.far (p := ⟨w.heap.size, 0, none⟩) (by show _ ≠ w.heap.size; omega) (.int .u32 pa)
              have hX_10 := hX_7.far (p := ⟨w.heap.size, 0, none⟩) (by show _ ≠ w.heap.size; omega) (.int .u32 pa)
              have b010 := b07.setCell (p := ⟨w.heap.size, 0, none⟩) (by show _ ≤ w.heap.size; omega) (.int .u32 pa)
              rw [hw10] at hB_10 hN_10 hP_10 hX_10 b010
              rw [hw10]
              clear hw10
              clear c_hX0 c_hX1 c_hX2 c_hX3 c_hB0 f_hB0 c_hB1 f_hB1 c_hB2 f_hB2 c_hB3 f_hB3
              clear hB_7
              clear hN_7
              clear hP_7
              clear hX_7
              have c_hB0 := hB_10.cell 0
              have f_hB0 := hB_10.frozen 0
              have c_hB1 := hB_10.cell 1
              have f_hB1 := hB_10.frozen 1
              have c_hB2 := hB_10.cell 2
              have f_hB2 := hB_10.frozen 2
              have c_hB3 := hB_10.cell 3
              have f_hB3 := hB_10.frozen 3
              have c_hX0 := hX_10.cell 0
              have c_hX1 := hX_10.cell 1
              have c_hX2 := hX_10.cell 2
              have c_hX3 := hX_10.cell 3
              obtain ⟨w11, hw11⟩ : ∃ W, w10.setCell ⟨w.heap.size, 1, none⟩ (.int .i64 pn) = W := ⟨_, rfl⟩
              have hB_11 := hB_10.set_ 1 (.int .i64 pn)
              simp only [List.setIfInBounds_toArray, List.set_cons_succ, List.set_cons_zero] at hB_11
              have hN_11 := hN_10.far (p := ⟨w.heap.size, 1, none⟩) (by show _ ≠ w.heap.size; omega) (.int .i64 pn)
              have hP_11 := hP_10.far (p := ⟨w.heap.size, 1, none⟩) (by show _ ≠ w.heap.size; omega) (.int .i64 pn)
              have hX_11 := hX_10.far (p := ⟨w.heap.size, 1, none⟩) (by show _ ≠ w.heap.size; omega) (.int .i64 pn)
              have b011 := b010.setCell (p := ⟨w.heap.size, 1, none⟩) (by show _ ≤ w.heap.size; omega) (.int .i64 pn)
              rw [hw11] at hB_11 hN_11 hP_11 hX_11 b011
              rw [hw11]
              clear hw11
              clear c_hX0 c_hX1 c_hX2 c_hX3 c_hB0 f_hB0 c_hB1 f_hB1 c_hB2 f_hB2 c_hB3 f_hB3
              clear hB_10
              clear hN_10
              clear hP_10
              clear hX_10
              have c_hB0 := hB_11.cell 0
              have f_hB0 := hB_11.frozen 0
              have c_hB1 := hB_11.cell 1
              have f_hB1 := hB_11.frozen 1
              have c_hB2 := hB_11.cell 2
              have f_hB2 := hB_11.frozen 2
              have c_hB3 := hB_11.cell 3
              have f_hB3 := hB_11.frozen 3
              have c_hX0 := hX_11.cell 0
              have c_hX1 := hX_11.cell 1
              have c_hX2 := hX_11.cell 2
              have c_hX3 := hX_11.cell 3
              obtain ⟨w12, hw12⟩ : ∃ W, w11.setCell ⟨w.heap.size, 2, none⟩ (.int .i64 x) = W := ⟨_, rfl⟩
              have hB_12 := hB_11.set_ 2 (.int .i64 x)
              simp only [List.setIfInBounds_toArray, List.set_cons_succ, List.set_cons_zero] at hB_12
              have hN_12 := hN_11.far (p := ⟨w.heap.size, 2, none⟩) (by show _ ≠ w.heap.size; omega) (.int .i64 x)
              have hP_12 := hP_11.far (p := ⟨w.heap.size, 2, none⟩) (by show _ ≠ w.heap.size; omega) (.int .i64 x)
              have hX_12 := hX_11.far (p := ⟨w.heap.size, 2, none⟩) (by show _ ≠ w.heap.size; omega) (.int .i64 x)
              have b012 := b011.setCell (p := ⟨w.heap.size, 2, none⟩) (by show _ ≤ w.heap.size; omega) (.int .i64 x)
              rw [hw12] at hB_12 hN_12 hP_12 hX_12 b012
              rw [hw12]
              clear hw12
              clear c_hX0 c_hX1 c_hX2 c_hX3 c_hB0 f_hB0 c_hB1 f_hB1 c_hB2 f_hB2 c_hB3 f_hB3
              clear hB_11
              clear hN_11
              clear hP_11
              clear hX_11
              have c_hB0 := hB_12.cell 0
              have f_hB0 := hB_12.frozen 0
              have c_hB1 := hB_12.cell 1
              have f_hB1 := hB_12.frozen 1
              have c_hB2 := hB_12.cell 2
              have f_hB2 := hB_12.frozen 2
              have c_hB3 := hB_12.cell 3
              have f_hB3 := hB_12.frozen 3
              have c_hX0 := hX_12.cell 0
              have c_hX1 := hX_12.cell 1
              have c_hX2 := hX_12.cell 2
              have c_hX3 := hX_12.cell 3
              obtain ⟨w13, hw13⟩ : ∃ W, w12.setCell ⟨w.heap.size, 3, none⟩ (.int .i64 y) = W := ⟨_, rfl⟩
              have hB_13 := hB_12.set_ 3 (.int .i64 y)
              simp only [List.setIfInBounds_toArray, List.set_cons_succ, List.set_cons_zero] at hB_13
              have hN_13 := hN_12.far (p := ⟨w.heap.size, 3, none⟩) (by show _ ≠ w.heap.size; omega) (.int .i64 y)
              have hP_13 := hP_12.far (p := ⟨w.heap.size, 3, none⟩) (by show _ ≠ w.heap.size; omega) (.int .i64 y)
              have hX_13 := hX_12.far (p := ⟨w.heap.size, 3, none⟩) (by show _ ≠ w.heap.size; omega) (.int .i64 y)
              have b013 := b012.setCell (p := ⟨w.heap.size, 3, none⟩) (by show _ ≤ w.heap.size; omega) (.int .i64 y)
              rw [hw13] at hB_13 hN_13 hP_13 hX_13 b013
              rw [hw13]
              clear hw13
              clear c_hX0 c_hX1 c_hX2 c_hX3 c_hB0 f_hB0 c_hB1 f_hB1 c_hB2 f_hB2 c_hB3 f_hB3
              clear hB_12
              clear hN_12
              clear hP_12
              clear hX_12
              have c_hB0 := hB_13.cell 0
              have f_hB0 := hB_13.frozen 0
              have c_hB1 := hB_13.cell 1
              have f_hB1 := hB_13.frozen 1
              have c_hB2 := hB_13.cell 2
              have f_hB2 := hB_13.frozen 2
              have c_hB3 := hB_13.cell 3
              have f_hB3 := hB_13.frozen 3
              have c_hX0 := hX_13.cell 0
              have c_hX1 := hX_13.cell 1
              have c_hX2 := hX_13.cell 2
              have c_hX3 := hX_13.cell 3
              exact bodyPost_ret (rg_ret2 rfl _ _ w.heap.size _ _ _ _ rfl hB_13) rfl ⟨pa, pn, x, y, true, rfl, hpl.1, HG.out, b013⟩
          · have hd2 : decide ((y : Int) ≤ 32) = false := decide_eq_false (by omega)
            go_wp2_with fail
            go_roundw
            case rel => exact ⟨x + 1, by omega, by go_num, b4, hB4, hN4, hP4, Lib.hid fun p q h1 h2 h5 h6 => by
              rcases Nat.lt_or_ge p x with h | h
              · exact h3.out p q h h2 h5 h6
              · have e : p = x := by omega
                subst e
                exact h4.out q h2 (by omega) h6⟩
            case measure => simp [intOf]; omega
      · have hd : decide ((x : Int) ≤ 32) = false := decide_eq_false (by omega)
        have HG := Lib.hid (HS.out (.inr fun p q h1 h2 h5 h6 => h3.out p q (by omega) h2 h5 h6))
        have c_hB0 := hB3.cell 0
        have f_hB0 := hB3.frozen 0
        have c_hB1 := hB3.cell 1
        have f_hB1 := hB3.frozen 1
        have c_hB2 := hB3.cell 2
        have f_hB2 := hB3.frozen 2
        have c_hB3 := hB3.cell 3
        have f_hB3 := hB3.frozen 3
        have c_hN0 := hN3.cell 0
        have c_hN1 := hN3.cell 1
        have c_hN2 := hN3.cell 2
        have c_hN3 := hN3.cell 3
        go_wp2_with fail
        obtain ⟨w10, hw10⟩ : ∃ W, w3.setCell ⟨w.heap.size, 0, none⟩ (.int .u32 0) = W := ⟨_, rfl⟩
        have hB_10 := hB3.set_ 0 (.int .u32 0)
        simp only [List.setIfInBounds_toArray, List.set_cons_succ, List.set_cons_zero] at hB_10
        have hN_10 := hN3.far (p := ⟨w.heap.size, 0, none⟩) (by show _ ≠ w.heap.size; omega) (.int .u32 0)
        have b010 := b3.setCell (p := ⟨w.heap.size, 0, none⟩) (by show _ ≤ w.heap.size; omega) (.int .u32 0)
        rw [hw10] at hB_10 hN_10 b010
        rw [hw10]
        clear hw10
        clear c_hB0 f_hB0 c_hB1 f_hB1 c_hB2 f_hB2 c_hB3 f_hB3 c_hN0 c_hN1 c_hN2 c_hN3
        have c_hB0 := hB_10.cell 0
        have f_hB0 := hB_10.frozen 0
        have c_hB1 := hB_10.cell 1
        have f_hB1 := hB_10.frozen 1
        have c_hB2 := hB_10.cell 2
        have f_hB2 := hB_10.frozen 2
        have c_hB3 := hB_10.cell 3
        have f_hB3 := hB_10.frozen 3
        have c_hN0 := hN_10.cell 0
        have c_hN1 := hN_10.cell 1
        have c_hN2 := hN_10.cell 2
        have c_hN3 := hN_10.cell 3
        obtain ⟨w11, hw11⟩ : ∃ W, w10.setCell ⟨w.heap.size, 1, none⟩ (.int .i64 0) = W := ⟨_, rfl⟩
        have hB_11 := hB_10.set_ 1 (.int .i64 0)
        simp only [List.setIfInBounds_toArray, List.set_cons_succ, List.set_cons_zero] at hB_11
        have hN_11 := hN_10.far (p := ⟨w.heap.size, 1, none⟩) (by show _ ≠ w.heap.size; omega) (.int .i64 0)
        have b011 := b010.setCell (p := ⟨w.heap.size, 1, none⟩) (by show _ ≤ w.heap.size; omega) (.int .i64 0)
        rw [hw11] at hB_11 hN_11 b011
        rw [hw11]
        clear hw11
        clear c_hB0 f_hB0 c_hB1 f_hB1 c_hB2 f_hB2 c_hB3 f_hB3 c_hN0 c_hN1 c_hN2 c_hN3
        clear hB_10
        clear hN_10
        have c_hB0 := hB_11.cell 0
        have f_hB0 := hB_11.frozen 0
        have c_hB1 := hB_11.cell 1
        have f_hB1 := hB_11.frozen 1
        have c_hB2 := hB_11.cell 2
        have f_hB2 := hB_11.frozen 2
        have c_hB3 := hB_11.cell 3
        have f_hB3 := hB_11.frozen 3
        have c_hN0 := hN_11.cell 0
        have c_hN1 := hN_11.cell 1
        have c_hN2 := hN_11.cell 2
        have c_hN3 := hN_11.cell 3
        obtain ⟨w12, hw12⟩ : ∃ W, w11.setCell ⟨w.heap.size, 2, none⟩ (.int .i64 0) = W := ⟨_, rfl⟩
        have hB_12 := hB_11.set_ 2 (.int .i64 0)
        simp only [List.setIfInBounds_toArray, List.set_cons_succ, List.set_cons_zero] at hB_12
        have hN_12 := hN_11.far (p := ⟨w.heap.size, 2, none⟩) (by show _ ≠ w.heap.size; omega) (.int .i64 0)
        have b012 := b011.setCell (p := ⟨w.heap.size, 2, none⟩) (by show _ ≤ w.heap.size; omega) (.int .i64 0)
        rw [hw12] at hB_12 hN_12 b012
        rw [hw12]
        clear hw12
        clear c_hB0 f_hB0 c_hB1 f_hB1 c_hB2 f_hB2 c_hB3 f_hB3 c_hN0 c_hN1 c_hN2 c_hN3
        clear hB_11
        clear hN_11
        have c_hB0 := hB_12.cell 0
        have f_hB0 := hB_12.frozen 0
        have c_hB1 := hB_12.cell 1
        have f_hB1 := hB_12.frozen 1
        have c_hB2 := hB_12.cell 2
        have f_hB2 := hB_12.frozen 2
        have c_hB3 := hB_12.cell 3
        have f_hB3 := hB_12.frozen 3
        have c_hN0 := hN_12.cell 0
        have c_hN1 := hN_12.cell 1
        have c_hN2 := hN_12.cell 2
        have c_hN3 := hN_12.cell 3
        obtain ⟨w13, hw13⟩ : ∃ W, w12.setCell ⟨w.heap.size, 3, none⟩ (.int .i64 0) = W := ⟨_, rfl⟩
        have hB_13 := hB_12.set_ 3 (.int .i64 0)
        simp only [List.setIfInBounds_toArray, List.set_cons_succ, List.set_cons_zero] at hB_13
        have hN_13 := hN_12.far (p := ⟨w.heap.size, 3, none⟩) (by show _ ≠ w.heap.size; omega) (.int .i64 0)
        have b013 := b012.setCell (p := ⟨w.heap.size, 3, none⟩) (by show _ ≤ w.heap.size; omega) (.int .i64 0)
        rw [hw13] at hB_13 hN_13 b013
        rw [hw13]
        clear hw13
        clear c_hB0 f_hB0 c_hB1 f_hB1 c_hB2 f_hB2 c_hB3 f_hB3 c_hN0 c_hN1 c_hN2 c_hN3
        clear hB_12
        clear hN_12
        have c_hB0 := hB_13.cell 0
        have f_hB0 := hB_13.frozen 0
        have c_hB1 := hB_13.cell 1
        have f_hB1 := hB_13.frozen 1
        have c_hB2 := hB_13.cell 2
        have f_hB2 := hB_13.frozen 2
        have c_hB3 := hB_13.cell 3
        have f_hB3 := hB_13.frozen 3
        have c_hN0 := hN_13.cell 0
        have c_hN1 := hN_13.cell 1
        have c_hN2 := hN_13.cell 2
        have c_hN3 := hN_13.cell 3
        exact bodyPost_ret (rg_ret2 rfl _ _ w.heap.size _ _ _ _ rfl hB_13) rfl ⟨0, 0, 0, 0, false, rfl, by omega, HG.out, b013⟩
end Go.Proofs.YtnhkpnohadbcdaaDoor
