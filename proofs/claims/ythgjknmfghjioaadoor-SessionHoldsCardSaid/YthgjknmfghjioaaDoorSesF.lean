/- Walks of layer 23 (session): an OPEN, and the other messages but an UPDATE. No conditions but the tables and where the session lies. -/
import Derived.Test.YthgjknmfghjioaaDoorProg
import Derived.WalkKit
import Derived.WalkSpells
import Derived.WalkLawsBesides
import Derived.Outline
import Derived.Deep.QuietTactic
import Derived.BigQuiet
import Derived.Handy
import Derived.Lib.Hide
import Derived.Deep.DeepCutAuto
import Derived.Deep.CutBlock
import Derived.Laws.Cover4
import Derived.OrdersHeld
import Derived.Deep.RegionHeld
import Derived.Test.YthgjknmfghjioaaDoorSesE
namespace Go.Proofs.YthgjknmfghjioaaDoor
open Go.RowKit
set_option linter.unusedSimpArgs false
set_option linter.unusedVariables false
theorem z26_no8 : ((#[.int .i64 0, .int .i64 0, .int .i64 0, .slice none 0 0, .int .i64 0, .int .i64 0, .slice none 0 0, .slice none 0 0, .slice none 0 0, .int .i64 0, .slice none 0 0, .int .u32 0, .int .i64 0, .int .i64 0, .bool false, .bool false, .int .u32 0, .int .u32 0, .slice none 0 0, .slice none 0 0, .slice none 0 0, .bool false, .bool false, .bool false, .bool false, .bool false] : Array Value).toList.all fun x => match x with | .int .u8 _ => false | _ => true) = true := rfl
theorem RetDo.put {w w1 w2 : World} {g r : Nat} {K : SesK} {V : SesV} {O : OutV} {e : Ending} (h : RetDo w1 g K V O e w2) (m : Sm w.heap.size [g] w w1) (hr : w.heap.size ≤ r) (hg : g < w.heap.size) {cs : Array Value} (hR : Blk w1 r 48 cs) (hno : (cs.toList.all fun x => match x with | .int .u8 _ => false | _ => true) = true) :
    ∃ C : Array Value, e = .returned (.agg C) ∧ C.size = 26 ∧ C.all (·.oneCell') = true ∧ Blk w2 r 48 cs ∧ RetDo w g K V O (.returned (.agg C)) (w2.setRow r C) := by
  obtain ⟨At, nt, ct, Af, nf, cf, As, ns, cs', rfl, o2, o3, o4, m2, hS⟩ := h
  have z := m.size
  have hgr : g ≠ r := by omega
  have hR2 := m2.blk hR hR.lt (by simpa using Ne.symm hgr)
  have rr : ∀ C, Sm w2.heap.size [r] w2 (w2.setRow r C) := fun C => (Sm.refl _ _ _).setRow (.inr (by simp)) C
  refine ⟨_, rfl, rfl, by kernel_rfl, hR2, At, nt, ct, Af, nf, cf, As, ns, cs', rfl, ⟨o2.1, own_keep (o2.low z).2 fun k hk => row_far _ _ _ ?_⟩, ⟨o3.1, own_keep (o3.low z).2 fun k hk => row_far _ _ _ ?_⟩, o4.two (rr _) hR2 hno, (m.trans (m2.less z)).setRow (.inl hr) _, hS.rowFar hgr _⟩
  · rintro rfl
    exact own_blk_ne o2.2 hR2 (by decide) hk
  · rintro rfl
    exact own_blk_ne o3.2 hR2 (by decide) hk
theorem parsePLen : ∀ (N : Nat) (l : List UInt8) (cs : List Cap), l.length ≤ N → parseP l = .inr cs → cs.length ≤ l.length
  | 0, l, cs, hN, h => by
    have : l = [] := List.eq_nil_of_length_eq_zero (by omega)
    subst this
    rw [parseP_nil] at h
    injection h with h
    subst h
    simp
  | N + 1, [], cs, hN, h => by
    rw [parseP_nil] at h
    injection h with h
    subst h
    simp
  | N + 1, [k], cs, hN, h => by rw [parseP_one] at h; cases h
  | N + 1, k :: n :: r, cs, hN, h => by
    by_cases hle : n.toNat ≤ r.length
    · by_cases hk : k = 2
      · rw [parseP, if_pos hle, if_pos hk] at h
        cases hc : parseC (r.take n.toNat) with
        | none => rw [hc] at h; cases h
        | some c1 =>
          rw [hc] at h
          cases hp : parseP (r.drop n.toNat) with
          | inl f => rw [hp] at h; cases h
          | inr ds =>
            rw [hp] at h
            injection h with h
            subst h
            have h1 := parseC_len _ _ c1 (Nat.le_refl _) hc
            have h2 := parsePLen N _ ds (by simp at hN ⊢; omega) hp
            rw [List.length_take] at h1
            rw [List.length_drop] at h2
            simp; omega
      · rw [parseP_kind hle hk] at h; cases h
    · rw [parseP_short (by omega)] at h; cases h
theorem numL_upto (l : List UInt8) (k : Nat) : numL (l.take k) < 256 ^ k := by
  have h := numL_lt (l.take k) (l.take k).length (Nat.le_refl _)
  rw [List.take_length] at h
  exact Nat.lt_of_lt_of_le h (Nat.pow_le_pow_right (by omega) (by rw [List.length_take]; omega))
theorem readO_range {l : List UInt8} {o : Opn} (h : readO l = .inr o) : o.caps.length ≤ l.length ∧ o.id < 4294967296 ∧ 0 ≤ o.hold ∧ o.hold ≤ 65535 := by
  unfold readO at h
  split at h
  · cases hp : parseP (l.drop 10) with
    | inl f => rw [hp] at h; cases h
    | inr cs =>
      rw [hp] at h
      injection h with h
      subst h
      have h1 := parsePLen _ _ cs (Nat.le_refl _) hp
      rw [List.length_drop] at h1
      have h2 := numL_upto (l.drop 3) 2
      have h3 := numL_upto (l.drop 5) 4
      refine ⟨?_, h3, ?_, ?_⟩ <;> (simp only [mkOpn]; omega)
  · cases h
theorem opn_field (a b c d e : Value) (w : World) : (Instr.field 66 (.agg #[a, b, c, d, e]) 2).run Tryd.prog w = .ok c w := by kernel_rfl
theorem checkO_len (v a h : Int) (i : Nat) (l : List Cap) (p q : Int) : (checkO v a h i l p q).2.length ≤ 2 ∧ ((checkO v a h i l p q).1 = 0 → (checkO v a h i l p q).2 = []) := by
  unfold checkO
  repeat' split
  all_goals simp
theorem mineHid (a i x : Nat) (ho A0 H0 : Int) (ha : a < 4294967296) (h1 : Hid (mineA a = A0)) (h2 : Hid (mineH ho = H0)) (w : World) :
    Calls Tryd.prog 26 #[.agg #[.int .u32 a, .int .u32 i, .int .u32 x, .int .i64 ho]] w fun e w' => ∃ (A : Option Addr) (c : Nat), e = .returned (.agg #[.int .i64 4, .int .i64 A0, .int .i64 H0, .int .u32 i, .slice A 1 c]) ∧ Below w.heap.size w w' :=
  (openMine a i x ho w ha).mono fun _ _ ⟨A, c, e1, e2, _, e4⟩ => ⟨A, c, by rw [e1, h1.out, h2.out], e4⟩
theorem holdHid (x y H : Int) (hH : Hid (holdO x y = H)) (w : World) : Calls Tryd.prog 44 #[.int .i64 x, .int .i64 y] w fun en w' => en = .returned (.int .i64 H) ∧ w = w' :=
  (openHold x y w).mono fun _ _ ⟨h1, h2⟩ => ⟨by rw [h1, hH.out], h2.symm⟩
theorem wideHid (v a h : Int) (i : Nat) (A : Option Addr) (n c : Nat) (l : List Cap) (N : Nat) (B : Bool) (hN : Hid (wideO l = (N, B))) (w : World) (hd : DL rCap 2 w (Lo w) A n l) (hn : n ≤ 100000) :
    Calls Tryd.prog 45 #[.agg #[.int .i64 v, .int .i64 a, .int .i64 h, .int .u32 i, .slice A n c]] w fun en w' => en = .returned (.tuple #[.int .u32 N, .bool B]) ∧ Below w.heap.size w w' :=
  (openWide v a h i A n c l w hd hn).mono fun _ _ ⟨h1, h2⟩ => ⟨by rw [h1, hN.out], h2⟩
theorem BS.apartRow {w : World} {A : Option Addr} {n k : Nat} {l : List UInt8} {t : TypeId} {cs : Array Value} (h : BS w w.heap.size A n l) (hb : Blk w k t cs) (hno : (cs.toList.all fun x => match x with | .int .u8 _ => false | _ => true) = true) (C : Array Value) : BS (w.setRow k C) (w.setRow k C).heap.size A n l :=
  ((h.un hb hno).smK ((Sm.refl w.heap.size [k] w).setRow (.inr (by simp)) C)).bs (fun _ hx => hx.2.1)
theorem BS.zero_ {w : World} {B : Nat} {A : Option Addr} : BS w B A 0 [] := ⟨rfl, Reads.none_⟩
theorem FsmTab.sm {w w' : World} {g : Nat} {K : SesK} {V : SesV} (h : FsmTab w) (hs : Sm w.heap.size [g] w w') (hS : Blk w g 70 (sesC K V)) : FsmTab w' := fun s e hs' he => by
  obtain ⟨h1, h2⟩ := h s e hs' he
  have hne : 0 ≠ g := by
    rintro rfl
    have h0 := (h 0 0 (by omega) (by omega)).1
    rw [hS.cell] at h0
    have e : (some (Value.int .u32 K.la) : Option Value) = some (.int .i64 ((fsmCell 0 0).1 : Int)) := h0
    injection e with e
    injection e with e
    cases e
  have hb := hs.block 0 (lt_of_cell h1) (by simpa using hne)
  exact ⟨(World.cell?_of_block hb).trans h1, (World.cell?_of_block hb).trans h2⟩
theorem openCheckK (v a h : Int) (i : Nat) (A : Option Addr) (n c : Nat) (l : List Cap) (p q : Int) (rc : Nat × List UInt8) (kc : Int) (hr : Hid (checkO v a h i l p q = rc)) (hk : Hid ((if rc.1 = 0 then (0 : Int) else 2) = kc)) (w : World) (hd : DL rCap 2 w (Lo w) A n l) (hn : n ≤ 100000) :
    Calls Tryd.prog 43 #[.agg #[.int .i64 v, .int .i64 a, .int .i64 h, .int .u32 i, .slice A n c], .int .u32 p, .int .u32 q] w fun e w' => ∃ (A : Option Addr) (n c : Nat), e = .returned (.agg #[.int .i64 kc, .int .i64 (rc.1 : Nat), .slice A n c]) ∧ BS w' w'.heap.size A n rc.2 ∧ Below w.heap.size w w' :=
  (openCheck v a h i A n c l p q w hd hn).mono fun e w' ⟨A, n, c, h1, h2, h3⟩ => ⟨A, n, c, by
    have := h1
    rw [hr.out, hk.out] at this
    exact this, by rw [hr.out] at h2; exact h2, h3⟩
set_option maxHeartbeats 4000000 in
set_option maxRecDepth 100000 in
theorem sesOpened (KS : SesK) (V : SesV) (A : Option Addr) (n c : Nat) (l : List UInt8) (g : Nat) (w : World) (hS : Blk w g 70 (sesC KS V)) (hl : BS w w.heap.size A n l) (hn : n ≤ 100000) (hV : Hid (SesOk V)) (hK : Hid (KS.la < 4294967296 ∧ KS.li < 4294967296)) (ht : FsmTab w) (hlt : LeaTab w) (V2 : SesV) (ev : Int) (ft : Flt) (hm : Hid (sesOpen KS V l = (V2, ev, ft))) :
    Calls Tryd.prog 30 #[.pointer (some ⟨g, 0, none⟩), .slice A n c] w (RetDo w g KS (sesV KS.ps V2 ev) (doOut KS V2 ev ft)) := by
  have hgl := hS.lt
  obtain ⟨W, hW, hR, b0⟩ := box1c w #[.int .i64 0, .int .i64 0, .int .i64 0, .slice none 0 0, .int .i64 0, .int .i64 0, .slice none 0 0, .slice none 0 0, .slice none 0 0, .int .i64 0, .slice none 0 0, .int .u32 0, .int .i64 0, .int .i64 0, .bool false, .bool false, .int .u32 0, .int .u32 0, .slice none 0 0, .slice none 0 0, .slice none 0 0, .bool false, .bool false, .bool false, .bool false, .bool false] 48
  have HW := Lib.hid hW
  clear hW
  obtain ⟨r, hr⟩ : ∃ r, w.heap.size = r := ⟨_, rfl⟩
  rw [hr] at hR
  have HRz := Lib.hid hr
  have hwr : w.heap.size ≤ r := by omega
  have hgr : g ≠ r := by omega
  clear hr
  have hS0 := hS.below b0 hS.lt
  have hl0 := hl.call b0
  have ht0 := ht.below b0
  have hlt0 := hlt.call b0
  have hst : W.cell? ⟨g, 10, none⟩ = some (.int .i64 V.st) := hS0.cell 10
  have hho : Hid (0 ≤ V.ho ∧ V.ho ≤ 65535) := Lib.hid ⟨hV.out.h0, hV.out.h1⟩
  go_enter Tryd.func30, Tryd.ntmps30
  go_upto_region 1 with fail
  rw [HW.out]
  rw [HRz.out]
  by_cases h3 : V.st = 3
  case neg =>
    have t3 : (V.st != 3) = true := by simpa using h3
    have HM := Lib.hid (show V2 = V ∧ ev = 7 ∧ ft = (0, 0, []) by
      have h := hm.out
      unfold sesOpen at h
      rw [if_neg h3] at h
      cases h
      exact ⟨rfl, rfl, rfl⟩)
    clear h3 hm
    go_wp2_with fail
    refine (sesStep KS V 7 0 0 none 0 0 [] g W hS0 BS.none_ (by omega) hho hK ht0 hlt0).mono ?_
    rintro e99 w99 hd99
    obtain ⟨C, rfl, hCs, hC1, hR99, HO⟩ := hd99.put (Sm.of_below b0 (Nat.le_refl _)) (hwr) hgl hR z26_no8
    have hCi : (Tryd.prog.info? 48).map (·.size) = some C.size := by rw [hCs]; exact out_info
    have HOUT := Lib.hid HO
    clear HO
    rename_i hk1
    refine hk1 _ _ ?_
    clear hk1
    refine wpList_store_row rfl 48 (.tmp 4) (.tmp 14) rfl r C (by rfl) (by rfl) 48 #[.int .i64 0, .int .i64 0, .int .i64 0, .slice none 0 0, .int .i64 0, .int .i64 0, .slice none 0 0, .slice none 0 0, .slice none 0 0, .int .i64 0, .slice none 0 0, .int .u32 0, .int .i64 0, .int .i64 0, .bool false, .bool false, .int .u32 0, .int .u32 0, .slice none 0 0, .slice none 0 0, .slice none 0 0, .bool false, .bool false, .bool false, .bool false, .bool false] hR99 hCi hCs.symm hC1 ?_
    go_simp
    rename_i hk kk
    refine hk _ _ (wp_ret ?_)
    exact bodyPost_ret (out_ret rfl _ _ r C hCs rfl (hR99.row _)) rfl (by rw [HM.out.1, HM.out.2.1, HM.out.2.2]; exact HOUT.out)
  have t3 : (V.st != 3) = false := by simpa using h3
  go_wp2_with fail
  refine (openReadF A n c l W hl0 hn).mono ?_
  rintro e1 w1 ⟨b1, hr1⟩
  have b01 := btr b0 b1 b0.size
  have hS1 := hS0.below b1 hS0.lt
  have hR1 := hR.below b1 hR.lt
  have ht1 := ht0.below b1
  have hlt1 := hlt0.call b1
  clear hst hl0
  obtain ⟨ro, hro⟩ : ∃ ro, readO l = ro := ⟨_, rfl⟩
  rw [hro] at hr1
  cases ro with
  | inl f =>
    have HM := Lib.hid (show V2 = V ∧ ev = 9 ∧ ft = (2, (f : Int), []) by
      have h := hm.out
      unfold sesOpen at h
      rw [if_pos h3, hro] at h
      cases h
      exact ⟨rfl, rfl, rfl⟩)
    clear h3 hm hro
    obtain rfl := hr1
    obtain ⟨w2, hw2, hX, hF, b2⟩ := boxes2 w1 #[.int .i64 0, .int .i64 0, .int .i64 0, .int .u32 0, .slice none 0 0] #[.int .i64 2, .int .i64 (f : Nat), .slice none 0 0] 66 36
    have HW2 := Lib.hid hw2
    clear hw2
    go_upto_region 4 with fail
    rw [HW2.out]
    have b02 := btr b01 b2 b01.size
    have hS2 := hS1.below b2 hS1.lt
    have hR2 := hR1.below b2 hR1.lt
    have ht2 := ht1.below b2
    have hlt2 := hlt1.call b2
    have f0 : w2.cell? ⟨w1.heap.size + 1, 0, none⟩ = some (.int .i64 2) := hF.cell 0
    have f1 : w2.cell? ⟨w1.heap.size + 1, 1, none⟩ = some (.int .i64 (f : Nat)) := hF.cell 1
    have f2 : w2.cell? ⟨w1.heap.size + 1, 2, none⟩ = some (.slice none 0 0) := hF.cell 2
    go_wp2_with fail
    refine (sesStep KS V 9 2 (f : Nat) none 0 0 [] g w2 hS2 BS.none_ (by omega) hho hK ht2 hlt2).mono ?_
    rintro e99 w99 hd99
    obtain ⟨C, rfl, hCs, hC1, hR99, HO⟩ := hd99.put (Sm.of_below b02 (Nat.le_refl _)) (hwr) hgl hR2 z26_no8
    have hCi : (Tryd.prog.info? 48).map (·.size) = some C.size := by rw [hCs]; exact out_info
    have HOUT := Lib.hid HO
    clear HO
    rename_i hk1
    refine hk1 _ _ ?_
    clear hk1
    refine wpList_store_row rfl 48 (.tmp 4) (.tmp 40) rfl r C (by rfl) (by rfl) 48 #[.int .i64 0, .int .i64 0, .int .i64 0, .slice none 0 0, .int .i64 0, .int .i64 0, .slice none 0 0, .slice none 0 0, .slice none 0 0, .int .i64 0, .slice none 0 0, .int .u32 0, .int .i64 0, .int .i64 0, .bool false, .bool false, .int .u32 0, .int .u32 0, .slice none 0 0, .slice none 0 0, .slice none 0 0, .bool false, .bool false, .bool false, .bool false, .bool false] hR99 hCi hCs.symm hC1 ?_
    go_simp
    rename_i hk kk
    refine hk _ _ (wp_ret ?_)
    exact bodyPost_ret (out_ret rfl _ _ r C hCs rfl (hR99.row _)) rfl (by rw [HM.out.1, HM.out.2.1, HM.out.2.2]; exact HOUT.out)
  | inr o =>
    obtain ⟨A1, n1, c1, rfl, d1, hn1⟩ := hr1
    obtain ⟨ov, oa, oh, oi, oc⟩ := o
    obtain ⟨hlen, hoi, hoh0, hoh1⟩ := readO_range hro
    have hcn : n1 ≤ 100000 := by have := d1.len; have := hl.len; simp only at *; omega
    obtain ⟨w2, hw2, hX, hF, b2⟩ := boxes2 w1 #[.int .i64 ov, .int .i64 oa, .int .i64 oh, .int .u32 oi, .slice A1 n1 c1] #[.int .i64 0, .int .i64 0, .slice none 0 0] 66 36
    have HW2 := Lib.hid hw2
    clear hw2
    go_upto_region 4 with fail
    rw [HW2.out]
    have b02 := btr b01 b2 b01.size
    have hS2 := hS1.below b2 hS1.lt
    have hR2 := hR1.below b2 hR1.lt
    have ht2 := ht1.below b2
    have hlt2 := hlt1.call b2
    have zw0 : w.heap.size < W.heap.size := by have := hR.lt; have := HRz.out; omega
    have d2 := d1.keep rCap_ok (S' := Fr (w.heap.size + 1) w2) (fun b hb => ⟨⟨by have := hb.1; omega, Nat.lt_of_lt_of_le hb.2 b2.size⟩, b2.block b hb.2⟩)
    have dx := d1.keep rCap_ok (S' := fun b => w.heap.size + 1 ≤ b ∧ b < w1.heap.size) (fun b hb => ⟨⟨by have := hb.1; omega, hb.2⟩, rfl⟩)
    obtain ⟨x, hx⟩ : ∃ x, w1.heap.size = x := ⟨_, rfl⟩
    rw [hx] at hX hF
    rw [hx]
    have hxg : g < x := by have := hS1.lt; omega
    have hxr : r < x := by have := hR1.lt; omega
    rw [hx] at dx
    have dz := dx.keep rCap_ok (S' := fun b => w.heap.size + 1 ≤ b ∧ b < x) (fun b hb => ⟨hb, b2.block b (by rw [hx]; exact hb.2)⟩)
    clear hx HW2 hS1 hR1 ht1 hlt1 d1 dx
    have f0 : w2.cell? ⟨x + 1, 0, none⟩ = some (.int .i64 0) := hF.cell 0
    obtain ⟨rc, hrc⟩ : ∃ rc, checkO ov oa oh oi oc KS.pa KS.li = rc := ⟨_, rfl⟩
    obtain ⟨kc, hkc⟩ : ∃ kc, (if rc.1 = 0 then (0 : Int) else 2) = kc := ⟨_, rfl⟩
    have HRC := Lib.hid hrc
    have HKC := Lib.hid hkc
    clear hkc
    go_upto_region 5 with fail
    rename_i hk
    have HK5 := Lib.hid hk
    clear hk
    obtain ⟨wd, hwd⟩ : ∃ x, w2.drew = x := ⟨_, rfl⟩
    have bd : Below w2.heap.size w2 wd := by rw [← hwd]; exact (Below.refl _ _).drew
    have hSd := hS2.below bd hS2.lt
    have hXd := hX.below bd hX.lt
    have hFd := hF.below bd hF.lt
    have hRd := hR2.below bd hR2.lt
    have HDZ := Lib.hid (dz.keep rCap_ok (S' := fun b => w.heap.size + 1 ≤ b ∧ b < x) (fun b hb => ⟨hb, bd.block b (by have := hX.lt; omega)⟩))
    have HDL := Lib.hid (d2.keep rCap_ok (S' := Lo wd) (fun b hb => ⟨Nat.lt_of_lt_of_le hb.2 bd.size, bd.block b hb.2⟩))
    have htd := ht2.below bd
    have hltd := hlt2.call bd
    have b0d := btr b02 bd b02.size
    have HWD := Lib.hid hwd
    clear hwd f0 d2 dz hS2 hX hF hR2 ht2 hlt2
    have HCHK := Lib.hid (fun W => openCheckK ov oa oh oi A1 n1 c1 oc KS.pa KS.li rc kc HRC HKC W)
    refine wp_region_held_drew (S := (fun w' => Blk w' x 66 #[.int .i64 ov, .int .i64 oa, .int .i64 oh, .int .u32 oi, .slice A1 n1 c1] ∧ Blk w' g 70 (sesC KS V))) (by kernel_rfl) ?_ (fun hHeld => ?_)
    · rw [HWD.out]; exact ⟨hXd, hSd⟩
    rw [HWD.out]
    rw [HWD.out] at hHeld
    refine wpAnyH_take (i := 0) (v := ?m1_v0) rfl (by kernel_rfl) (by kernel_rfl) (by kernel_rfl) (by intro _ _ _ h; exact h) (Or.inl ⟨by rfl, ?m1_hy0⟩) (by assumption) ?m1_rest0
    case m1_hy0 => (intro w hSw; (try dsimp only at hSw); obtain ⟨hx1, hx2⟩ := hSw; have xc0 : w.cell? ⟨x, 0, none⟩ = some (.int .i64 ov) := hx1.cell 0; have xc1 : w.cell? ⟨x, 1, none⟩ = some (.int .i64 oa) := hx1.cell 1; have xc2 : w.cell? ⟨x, 2, none⟩ = some (.int .i64 oh) := hx1.cell 2; have xc3 : w.cell? ⟨x, 3, none⟩ = some (.int .u32 oi) := hx1.cell 3; have xc4 : w.cell? ⟨x, 4, none⟩ = some (.slice A1 n1 c1) := hx1.cell 4; go_simp; try with_reducible rfl)
    try simp only [Act.put, List.getElem_toArray, List.getElem_cons_succ, List.getElem_cons_zero, List.setIfInBounds_toArray, List.set_cons_zero, List.set_cons_succ]
    refine wpAnyH_take (i := 1) (v := ?m2_v1) rfl (by kernel_rfl) (by kernel_rfl) (by kernel_rfl) (by intro _ _ _ h; exact h) (Or.inl ⟨by rfl, ?m2_hy1⟩) (by assumption) ?m2_rest1
    case m2_hy1 => (intro w hSw; (try dsimp only at hSw); go_simp; try with_reducible rfl)
    try simp only [Act.put, List.getElem_toArray, List.getElem_cons_succ, List.getElem_cons_zero, List.setIfInBounds_toArray, List.set_cons_zero, List.set_cons_succ]
    refine wpAnyH_take (i := 2) (v := ?m3_v2) rfl (by kernel_rfl) (by kernel_rfl) (by kernel_rfl) (by intro _ _ _ h; exact h) (Or.inl ⟨by rfl, ?m3_hy2⟩) (by assumption) ?m3_rest2
    case m3_hy2 => (intro w hSw; (try dsimp only at hSw); go_simp; try with_reducible rfl)
    try simp only [Act.put, List.getElem_toArray, List.getElem_cons_succ, List.getElem_cons_zero, List.setIfInBounds_toArray, List.set_cons_zero, List.set_cons_succ]
    refine wpAnyH_take (i := 3) (v := ?m4_v3) rfl (by kernel_rfl) (by kernel_rfl) (by kernel_rfl) (by intro _ _ _ h; exact h) (Or.inl ⟨by rfl, ?m4_hy3⟩) (by assumption) ?m4_rest3
    case m4_hy3 => (intro w hSw; (try dsimp only at hSw); go_simp; try with_reducible rfl)
    try simp only [Act.put, List.getElem_toArray, List.getElem_cons_succ, List.getElem_cons_zero, List.setIfInBounds_toArray, List.set_cons_zero, List.set_cons_succ]
    refine wpAnyH_take (i := 4) (v := ?m5_v4) rfl (by kernel_rfl) (by kernel_rfl) (by kernel_rfl) (by intro _ _ _ h; exact h) (Or.inl ⟨by rfl, ?m5_hy4⟩) (by assumption) ?m5_rest4
    case m5_hy4 => (intro w hSw; (try dsimp only at hSw); go_simp; try with_reducible rfl)
    try simp only [Act.put, List.getElem_toArray, List.getElem_cons_succ, List.getElem_cons_zero, List.setIfInBounds_toArray, List.set_cons_zero, List.set_cons_succ]
    refine wpAnyH_take (i := 5) (v := ?m6_v5) rfl (by kernel_rfl) (by kernel_rfl) (by kernel_rfl) (by intro _ _ _ h; exact h) (Or.inl ⟨by rfl, ?m6_hy5⟩) (by assumption) ?m6_rest5
    case m6_hy5 => (intro w hSw; (try dsimp only at hSw); obtain ⟨hx1, hx2⟩ := hSw; have xd4 : w.cell? ⟨g, 4, none⟩ = some (.int .u32 KS.pa) := hx2.cell 4; go_simp; try with_reducible rfl)
    try simp only [Act.put, List.getElem_toArray, List.getElem_cons_succ, List.getElem_cons_zero, List.setIfInBounds_toArray, List.set_cons_zero, List.set_cons_succ]
    refine wpAnyH_take (i := 6) (v := ?m7_v6) rfl (by kernel_rfl) (by kernel_rfl) (by kernel_rfl) (by intro _ _ _ h; exact h) (Or.inl ⟨by rfl, ?m7_hy6⟩) (by assumption) ?m7_rest6
    case m7_hy6 => (intro w hSw; (try dsimp only at hSw); go_simp; try with_reducible rfl)
    try simp only [Act.put, List.getElem_toArray, List.getElem_cons_succ, List.getElem_cons_zero, List.setIfInBounds_toArray, List.set_cons_zero, List.set_cons_succ]
    refine wpAnyH_take (i := 7) (v := ?m8_v7) rfl (by kernel_rfl) (by kernel_rfl) (by kernel_rfl) (by intro _ _ _ h; exact h) (Or.inl ⟨by rfl, ?m8_hy7⟩) (by assumption) ?m8_rest7
    case m8_hy7 => (intro w hSw; (try dsimp only at hSw); go_simp; try with_reducible rfl)
    try simp only [Act.put, List.getElem_toArray, List.getElem_cons_succ, List.getElem_cons_zero, List.setIfInBounds_toArray, List.set_cons_zero, List.set_cons_succ]
    refine wpAnyH_take (i := 8) (v := ?m9_v8) rfl (by kernel_rfl) (by kernel_rfl) (by kernel_rfl) (by intro _ _ _ h; exact h) (Or.inl ⟨by rfl, ?m9_hy8⟩) (by assumption) ?m9_rest8
    case m9_hy8 => (intro w hSw; (try dsimp only at hSw); go_simp; try with_reducible rfl)
    try simp only [Act.put, List.getElem_toArray, List.getElem_cons_succ, List.getElem_cons_zero, List.setIfInBounds_toArray, List.set_cons_zero, List.set_cons_succ]
    refine wpAnyH_take (i := 9) (v := ?m10_v9) rfl (by kernel_rfl) (by kernel_rfl) (by kernel_rfl) (by intro _ _ _ h; exact h) (Or.inl ⟨by rfl, ?m10_hy9⟩) (by assumption) ?m10_rest9
    case m10_hy9 => (intro w hSw; (try dsimp only at hSw); go_simp; try with_reducible rfl)
    try simp only [Act.put, List.getElem_toArray, List.getElem_cons_succ, List.getElem_cons_zero, List.setIfInBounds_toArray, List.set_cons_zero, List.set_cons_succ]
    refine wpAnyH_take (i := 10) (v := ?m11_v10) rfl (by kernel_rfl) (by kernel_rfl) (by kernel_rfl) (by intro _ _ _ h; exact h) (Or.inl ⟨by rfl, ?m11_hy10⟩) (by assumption) ?m11_rest10
    case m11_hy10 => (intro w hSw; (try dsimp only at hSw); obtain ⟨hx1, hx2⟩ := hSw; have xd1 : w.cell? ⟨g, 1, none⟩ = some (.int .u32 KS.li) := hx2.cell 1; go_simp; try with_reducible rfl)
    try simp only [Act.put, List.getElem_toArray, List.getElem_cons_succ, List.getElem_cons_zero, List.setIfInBounds_toArray, List.set_cons_zero, List.set_cons_succ]
    refine wpAnyH_ready (rs := [11]) (by kernel_rfl) (by simp) ?_
    refine AllReadyH.cons rfl (fun K hK => ?_) AllReadyH.nil
    go_simp
    go_wp2_with (go_at_call 43; refine (HCHK.out _ HDL.out hcn).mono ?_; rintro _ w3 ⟨A3, n3, c3, rfl, bs3, b3⟩; have hX3 := hXd.below b3 hXd.lt; have hS3 := hSd.below b3 hSd.lt; have hF3 := hFd.below b3 hFd.lt)
    refine hK.out _ _ ?_ (fun hHeld => ?_)
    · try dsimp only
      exact ⟨hX3, hS3⟩
    clear hK K
    refine wpAnyH_ready (rs := [12]) (by kernel_rfl) (by simp) ?_
    refine AllReadyH.cons rfl (fun K hK => ?_) AllReadyH.nil
    refine step_row rfl 36 (.tmp 6) (.tmp 34) rfl (x + 1) #[.int .i64 kc, .int .i64 (rc.1 : Nat), .slice A3 n3 c3] (by rfl) (by rfl) 36 _ hF3 flt_infoS rfl (by kernel_rfl) ?_
    refine hK.out _ _ ?_ (fun hHeld => ?_)
    · try dsimp only
      exact ⟨hX3.rowFar (by omega) _, hS3.rowFar (by omega) _⟩
    clear hK K
    refine wpAnyH_done (by kernel_rfl) ?_ _
    refine HK5.out _ _ ?_
    obtain ⟨w4, hw4⟩ : ∃ y, w3.setRow (x + 1) #[.int .i64 kc, .int .i64 (rc.1 : Nat), .slice A3 n3 c3] = y := ⟨_, rfl⟩
    have z3 := b3.size
    have m4 : Sm w.heap.size [] w w4 := by rw [← hw4]; exact ((Sm.of_below b0d (Nat.le_refl _)).below b3 b0d.size).setRow (.inl (by omega)) _
    have b04 := m4.to_below (Nat.le_refl _) (by simp)
    have hX4 : Blk w4 x 66 #[.int .i64 ov, .int .i64 oa, .int .i64 oh, .int .u32 oi, .slice A1 n1 c1] := by rw [← hw4]; exact hX3.rowFar (by omega) _
    have hS4 : Blk w4 g 70 (sesC KS V) := by rw [← hw4]; exact hS3.rowFar (by omega) _
    have hR4 : Blk w4 r 48 #[.int .i64 0, .int .i64 0, .int .i64 0, .slice none 0 0, .int .i64 0, .int .i64 0, .slice none 0 0, .slice none 0 0, .slice none 0 0, .int .i64 0, .slice none 0 0, .int .u32 0, .int .i64 0, .int .i64 0, .bool false, .bool false, .int .u32 0, .int .u32 0, .slice none 0 0, .slice none 0 0, .slice none 0 0, .bool false, .bool false, .bool false, .bool false, .bool false] := by rw [← hw4]; exact (hRd.below b3 hRd.lt).rowFar (by omega) _
    have hF4 : Blk w4 (x + 1) 36 #[.int .i64 kc, .int .i64 (rc.1 : Nat), .slice A3 n3 c3] := by rw [← hw4]; exact hF3.row _
    have bs4 : BS w4 w4.heap.size A3 n3 rc.2 := by rw [← hw4]; exact bs3.apartRow hF3 (by rfl) _
    have HD4 := Lib.hid (show DL rCap 2 w4 (fun b => w.heap.size + 1 ≤ b ∧ b < x) A1 n1 oc by
      rw [← hw4]
      exact HDZ.out.keep rCap_ok (fun b hb => ⟨hb, (row_far _ _ _ (by have := hb.2; omega)).trans (b3.block b (by have := hXd.lt; have := hb.2; omega))⟩))
    have ht4 := ht.below b04
    have hlt4 := hlt.call b04
    rw [hw4]
    clear hw4 m4 hX3 hS3 hF3 hXd hSd hFd hRd bs3 b3 HDZ HDL HCHK HK5 HWD bd b0d htd hltd hHeld b02 z3
    have f0 : w4.cell? ⟨x + 1, 0, none⟩ = some (.int .i64 kc) := hF4.cell 0
    have hl3 : rc.2.length ≤ 2 ∧ (rc.1 = 0 → rc.2 = []) := by rw [← HRC.out]; exact checkO_len _ _ _ _ _ _ _
    have hn3 : n3 ≤ 100000 := by have := bs4.len; omega
    by_cases h0 : rc.1 = 0
    case neg =>
      have hk2 : kc = 2 := by rw [← HKC.out, if_neg h0]
      have HM := Lib.hid (show V2 = V ∧ ev = 9 ∧ ft = (2, (rc.1 : Int), rc.2) by
        have h := hm.out
        unfold sesOpen at h
        rw [if_pos h3, hro] at h
        simp only [hrc] at h
        rw [if_neg h0] at h
        cases h
        exact ⟨rfl, rfl, rfl⟩)
      subst hk2
      clear h0 h3 hm hro hrc
      have f1 : w4.cell? ⟨x + 1, 1, none⟩ = some (.int .i64 (rc.1 : Nat)) := hF4.cell 1
      have f2 : w4.cell? ⟨x + 1, 2, none⟩ = some (.slice A3 n3 c3) := hF4.cell 2
      go_wp2_with fail
      refine (sesStep KS V 9 2 (rc.1 : Nat) A3 n3 c3 rc.2 g w4 hS4 bs4 hn3 hho hK ht4 hlt4).mono ?_
      rintro e99 w99 hd99
      obtain ⟨C, rfl, hCs, hC1, hR99, HO⟩ := hd99.put (Sm.of_below b04 (Nat.le_refl _)) (hwr) hgl hR4 z26_no8
      have hCi : (Tryd.prog.info? 48).map (·.size) = some C.size := by rw [hCs]; exact out_info
      have HOUT := Lib.hid HO
      clear HO
      rename_i hk1
      refine hk1 _ _ ?_
      clear hk1
      refine wpList_store_row rfl 48 (.tmp 4) (.tmp 40) rfl r C (by rfl) (by rfl) 48 #[.int .i64 0, .int .i64 0, .int .i64 0, .slice none 0 0, .int .i64 0, .int .i64 0, .slice none 0 0, .slice none 0 0, .slice none 0 0, .int .i64 0, .slice none 0 0, .int .u32 0, .int .i64 0, .int .i64 0, .bool false, .bool false, .int .u32 0, .int .u32 0, .slice none 0 0, .slice none 0 0, .slice none 0 0, .bool false, .bool false, .bool false, .bool false, .bool false] hR99 hCi hCs.symm hC1 ?_
      go_simp
      rename_i hk kk
      refine hk _ _ (wp_ret ?_)
      exact bodyPost_ret (out_ret rfl _ _ r C hCs rfl (hR99.row _)) rfl (by rw [HM.out.1, HM.out.2.1, HM.out.2.2]; exact HOUT.out)
    have hk0 : kc = 0 := by rw [← HKC.out, if_pos h0]
    obtain ⟨H0, hH0⟩ : ∃ H0, holdO oh (mineH KS.lh) = H0 := ⟨_, rfl⟩
    obtain ⟨⟨N0, B0⟩, hB0⟩ : ∃ NB, wideO oc = NB := ⟨_, rfl⟩
    obtain ⟨V3, hV3⟩ : ∃ V3 : SesV, { V with wd := B0, id := oi, ho := H0 } = V3 := ⟨_, rfl⟩
    have HM := Lib.hid (show V2 = V3 ∧ ev = 7 ∧ ft = (0, 0, []) by
      have h := hm.out
      unfold sesOpen at h
      rw [if_pos h3, hro] at h
      simp only [hrc] at h
      rw [if_pos h0] at h
      unfold sesTook at h
      simp only [hB0, hH0, hV3] at h
      cases h
      exact ⟨rfl, rfl, rfl⟩)
    have hd0 : rc.2 = [] := hl3.2 h0
    have hF4' : Blk w4 (x + 1) 36 #[.int .i64 0, .int .i64 0, .slice A3 n3 c3] := by
      have := hF4
      rw [h0, hk0] at this
      exact this
    have hmr : 0 ≤ mineH KS.lh ∧ mineH KS.lh ≤ 65535 := by unfold mineH; split <;> (try split) <;> omega
    have hhr : 0 ≤ H0 ∧ H0 ≤ 65535 := by rw [← hH0]; unfold holdO; split <;> (try split) <;> omega
    have h31 : 0 ≤ V3.ho ∧ V3.ho ≤ 65535 := by rw [← hV3]; exact hhr
    rw [hd0] at bs4
    subst hk0
    obtain ⟨M0, hM0⟩ : ∃ M0, mineH KS.lh = M0 := ⟨_, rfl⟩
    obtain ⟨M1, hM1⟩ : ∃ M1, mineA KS.la = M1 := ⟨_, rfl⟩
    rw [hM0] at hH0
    have HMIN := Lib.hid (fun W => mineHid KS.la KS.li KS.lx KS.lh M1 M0 hK.out.1 (Lib.hid hM1) (Lib.hid hM0) W)
    have HHLD := Lib.hid (fun W => holdHid oh M0 H0 (Lib.hid hH0) W)
    have HB0 := Lib.hid hB0
    have HV3 := Lib.hid hV3
    clear h0 h3 hm hro hrc hH0 hB0 hV3 hd0 hmr hhr hM0 hM1
    go_upto_region 8 with fail
    rename_i hk
    have HK8 := Lib.hid hk
    clear hk
    obtain ⟨wd2, hwd2⟩ : ∃ y, w4.drew = y := ⟨_, rfl⟩
    have bd2 : Below w4.heap.size w4 wd2 := by rw [← hwd2]; exact (Below.refl _ _).drew
    have hX5 := hX4.below bd2 hX4.lt
    have hS5 := hS4.below bd2 hS4.lt
    have HWD2 := Lib.hid hwd2
    clear hwd2 f0
    refine wp_region_held_drew (S := (fun w' => Blk w' x 66 #[.int .i64 ov, .int .i64 oa, .int .i64 oh, .int .u32 oi, .slice A1 n1 c1] ∧ ∃ V', Blk w' g 70 (sesC KS V'))) (by kernel_rfl) ?_ (fun hHeld => ?_)
    · rw [HWD2.out]; exact ⟨hX5, _, hS5⟩
    rw [HWD2.out]
    rw [HWD2.out] at hHeld
    refine wpAnyH_take (i := 0) (v := ?m12_v0) rfl (by kernel_rfl) (by kernel_rfl) (by kernel_rfl) (by intro _ _ _ h; exact h) (Or.inl ⟨by rfl, ?m12_hy0⟩) (by assumption) ?m12_rest0
    case m12_hy0 => (intro w hSw; (try dsimp only at hSw); go_simp; try with_reducible rfl)
    try simp only [Act.put, List.getElem_toArray, List.getElem_cons_succ, List.getElem_cons_zero, List.setIfInBounds_toArray, List.set_cons_zero, List.set_cons_succ]
    refine wpAnyH_take (i := 1) (v := ?m13_v1) rfl (by kernel_rfl) (by kernel_rfl) (by kernel_rfl) (by intro _ _ _ h; exact h) (Or.inl ⟨by rfl, ?m13_hy1⟩) (by assumption) ?m13_rest1
    case m13_hy1 => (intro w hSw; (try dsimp only at hSw); go_simp; try with_reducible rfl)
    try simp only [Act.put, List.getElem_toArray, List.getElem_cons_succ, List.getElem_cons_zero, List.setIfInBounds_toArray, List.set_cons_zero, List.set_cons_succ]
    refine wpAnyH_take (i := 2) (v := ?m14_v2) rfl (by kernel_rfl) (by kernel_rfl) (by kernel_rfl) (by intro _ _ _ h; exact h) (Or.inl ⟨by rfl, ?m14_hy2⟩) (by assumption) ?m14_rest2
    case m14_hy2 => (intro w hSw; (try dsimp only at hSw); go_simp; try with_reducible rfl)
    try simp only [Act.put, List.getElem_toArray, List.getElem_cons_succ, List.getElem_cons_zero, List.setIfInBounds_toArray, List.set_cons_zero, List.set_cons_succ]
    refine wpAnyH_take (i := 3) (v := ?m15_v3) rfl (by kernel_rfl) (by kernel_rfl) (by kernel_rfl) (by intro _ _ _ h; exact h) (Or.inl ⟨by rfl, ?m15_hy3⟩) (by assumption) ?m15_rest3
    case m15_hy3 => (intro w hSw; (try dsimp only at hSw); obtain ⟨hx1, V', hx2⟩ := hSw; have xc3 : w.cell? ⟨x, 3, none⟩ = some (.int .u32 oi) := hx1.cell 3; go_simp; try with_reducible rfl)
    try simp only [Act.put, List.getElem_toArray, List.getElem_cons_succ, List.getElem_cons_zero, List.setIfInBounds_toArray, List.set_cons_zero, List.set_cons_succ]
    refine wpAnyH_take (i := 4) (v := ?m16_v4) rfl (by kernel_rfl) (by kernel_rfl) (by kernel_rfl) (by intro _ _ _ h; exact h) (Or.inl ⟨by rfl, ?m16_hy4⟩) (by assumption) ?m16_rest4
    case m16_hy4 => (intro w hSw; (try dsimp only at hSw); go_simp; try with_reducible rfl)
    try simp only [Act.put, List.getElem_toArray, List.getElem_cons_succ, List.getElem_cons_zero, List.setIfInBounds_toArray, List.set_cons_zero, List.set_cons_succ]
    refine wpAnyH_take (i := 5) (v := ?m17_v5) rfl (by kernel_rfl) (by kernel_rfl) (by kernel_rfl) (by intro _ _ _ h; exact h) (Or.inl ⟨by rfl, ?m17_hy5⟩) (by assumption) ?m17_rest5
    case m17_hy5 => (intro w hSw; (try dsimp only at hSw); obtain ⟨hx1, V', hx2⟩ := hSw; have xc2 : w.cell? ⟨x, 2, none⟩ = some (.int .i64 oh) := hx1.cell 2; go_simp; try with_reducible rfl)
    try simp only [Act.put, List.getElem_toArray, List.getElem_cons_succ, List.getElem_cons_zero, List.setIfInBounds_toArray, List.set_cons_zero, List.set_cons_succ]
    refine wpAnyH_take (i := 6) (v := ?m18_v6) rfl (by kernel_rfl) (by kernel_rfl) (by kernel_rfl) (by intro _ _ _ h; exact h) (Or.inl ⟨by rfl, ?m18_hy6⟩) (by assumption) ?m18_rest6
    case m18_hy6 => (intro w hSw; (try dsimp only at hSw); go_simp; try with_reducible rfl)
    try simp only [Act.put, List.getElem_toArray, List.getElem_cons_succ, List.getElem_cons_zero, List.setIfInBounds_toArray, List.set_cons_zero, List.set_cons_succ]
    refine wpAnyH_take (i := 7) (v := ?m19_v7) rfl (by kernel_rfl) (by kernel_rfl) (by kernel_rfl) (by intro _ _ _ h; exact h) (Or.inl ⟨by rfl, ?m19_hy7⟩) (by assumption) ?m19_rest7
    case m19_hy7 => (intro w hSw; (try dsimp only at hSw); go_simp; try with_reducible rfl)
    try simp only [Act.put, List.getElem_toArray, List.getElem_cons_succ, List.getElem_cons_zero, List.setIfInBounds_toArray, List.set_cons_zero, List.set_cons_succ]
    refine wpAnyH_take (i := 8) (v := ?m20_v8) rfl (by kernel_rfl) (by kernel_rfl) (by kernel_rfl) (by intro _ _ _ h; exact h) (Or.inl ⟨by rfl, ?m20_hy8⟩) (by assumption) ?m20_rest8
    case m20_hy8 => (intro w hSw; (try dsimp only at hSw); go_simp; try with_reducible rfl)
    try simp only [Act.put, List.getElem_toArray, List.getElem_cons_succ, List.getElem_cons_zero, List.setIfInBounds_toArray, List.set_cons_zero, List.set_cons_succ]
    refine wpAnyH_take (i := 9) (v := ?m21_v9) rfl (by kernel_rfl) (by kernel_rfl) (by kernel_rfl) (by intro _ _ _ h; exact h) (Or.inl ⟨by rfl, ?m21_hy9⟩) (by assumption) ?m21_rest9
    case m21_hy9 => (intro w hSw; (try dsimp only at hSw); obtain ⟨hx1, V', hx2⟩ := hSw; have xd0 : w.cell? ⟨g, 0, none⟩ = some (.int .u32 KS.la) := hx2.cell 0; have xd1 : w.cell? ⟨g, 1, none⟩ = some (.int .u32 KS.li) := hx2.cell 1; have xd2 : w.cell? ⟨g, 2, none⟩ = some (.int .u32 KS.lx) := hx2.cell 2; have xd3 : w.cell? ⟨g, 3, none⟩ = some (.int .i64 KS.lh) := hx2.cell 3; go_simp; try with_reducible rfl)
    try simp only [Act.put, List.getElem_toArray, List.getElem_cons_succ, List.getElem_cons_zero, List.setIfInBounds_toArray, List.set_cons_zero, List.set_cons_succ]
    refine wpAnyH_ready (rs := [10]) (by kernel_rfl) (by simp) ?_
    refine AllReadyH.cons rfl (fun K hK => ?_) AllReadyH.nil
    go_simp
    go_wp2_with (go_at_call 26; refine (HMIN.out _).mono ?_; rintro _ w5 ⟨A5, c5, rfl, b5⟩; have hX6 := hX5.below b5 hX5.lt; have hS6 := hS5.below b5 hS5.lt)
    refine hK.out _ _ ?_ (fun hHeld => ?_)
    · try dsimp only
      exact ⟨hX6, _, hS6⟩
    clear hK K
    refine wpAnyH_take (i := 11) (v := ?m22_v11) rfl (by kernel_rfl) (by kernel_rfl) (by kernel_rfl) (by intro _ _ _ h; exact h) (Or.inl ⟨by rfl, ?m22_hy11⟩) (by assumption) ?m22_rest11
    case m22_hy11 => (intro w hSw; (try dsimp only at hSw); have hfc := opn_field (.int .i64 4) (.int .i64 M1) (.int .i64 M0) (.int .u32 KS.li) (.slice A5 1 c5) w; go_simp; try with_reducible rfl)
    try simp only [Act.put, List.getElem_toArray, List.getElem_cons_succ, List.getElem_cons_zero, List.setIfInBounds_toArray, List.set_cons_zero, List.set_cons_succ]
    refine wpAnyH_ready (rs := [12]) (by kernel_rfl) (by simp) ?_
    refine AllReadyH.cons rfl (fun K hK => ?_) AllReadyH.nil
    go_simp
    go_wp2_with (go_at_call 44; refine (HHLD.out _).mono ?_; rintro _ _ ⟨rfl, rfl⟩)
    refine hK.out _ _ ?_ (fun hHeld => ?_)
    · try dsimp only
      exact ⟨hX6, _, hS6⟩
    clear hK K
    refine wpAnyH_take (i := 13) (v := ?m23_v13) rfl (by kernel_rfl) (by kernel_rfl) (by kernel_rfl) (by intro _ _ _ h; exact h) (Or.inl ⟨by rfl, ?m23_hy13⟩) (by assumption) ?m23_rest13
    case m23_hy13 => (intro w hSw; (try dsimp only at hSw); go_simp; try with_reducible rfl)
    try simp only [Act.put, List.getElem_toArray, List.getElem_cons_succ, List.getElem_cons_zero, List.setIfInBounds_toArray, List.set_cons_zero, List.set_cons_succ]
    refine wpAnyH_take (i := 14) (v := ?m24_v14) rfl (by kernel_rfl) (by kernel_rfl) (by kernel_rfl) (by intro _ _ _ h; exact h) (Or.inl ⟨by rfl, ?m24_hy14⟩) (by assumption) ?m24_rest14
    case m24_hy14 => (intro w hSw; (try dsimp only at hSw); go_simp; try with_reducible rfl)
    try simp only [Act.put, List.getElem_toArray, List.getElem_cons_succ, List.getElem_cons_zero, List.setIfInBounds_toArray, List.set_cons_zero, List.set_cons_succ]
    have y15 : w5.cell? ⟨g, 15, none⟩ = some (.int .u32 V.id) := hS6.cell 15
    have yf15 := hS6.frozen 15
    have y16 : w5.cell? ⟨g, 16, none⟩ = some (.int .i64 V.ho) := hS6.cell 16
    have yf16 := hS6.frozen 16
    refine wpAnyH_ready (rs := [15]) (by kernel_rfl) (by simp) ?_
    refine AllReadyH.cons rfl (fun K hK => ?_) AllReadyH.nil
    go_simp
    go_wp2_with (fail)
    refine hK.out _ _ ?_ (fun hHeld => ?_)
    · try dsimp only
      exact ⟨hX6.far (p := ⟨g, 15, none⟩) (by show _ ≠ g; omega) _, { V with id := oi }, hS6.set_ 15 (.int .u32 oi)⟩
    clear hK K
    refine wpAnyH_take (i := 16) (v := ?m25_v16) rfl (by kernel_rfl) (by kernel_rfl) (by kernel_rfl) (by intro _ _ _ h; exact h) (Or.inl ⟨by rfl, ?m25_hy16⟩) (by assumption) ?m25_rest16
    case m25_hy16 => (intro w hSw; (try dsimp only at hSw); go_simp; try with_reducible rfl)
    try simp only [Act.put, List.getElem_toArray, List.getElem_cons_succ, List.getElem_cons_zero, List.setIfInBounds_toArray, List.set_cons_zero, List.set_cons_succ]
    refine wpAnyH_take (i := 17) (v := ?m26_v17) rfl (by kernel_rfl) (by kernel_rfl) (by kernel_rfl) (by intro _ _ _ h; exact h) (Or.inl ⟨by rfl, ?m26_hy17⟩) (by assumption) ?m26_rest17
    case m26_hy17 => (intro w hSw; (try dsimp only at hSw); go_simp; try with_reducible rfl)
    try simp only [Act.put, List.getElem_toArray, List.getElem_cons_succ, List.getElem_cons_zero, List.setIfInBounds_toArray, List.set_cons_zero, List.set_cons_succ]
    refine wpAnyH_ready (rs := [18]) (by kernel_rfl) (by simp) ?_
    refine AllReadyH.cons rfl (fun K hK => ?_) AllReadyH.nil
    go_simp
    go_wp2_with (fail)
    refine hK.out _ _ ?_ (fun hHeld => ?_)
    · try dsimp only
      exact ⟨(hX6.far (p := ⟨g, 15, none⟩) (by show _ ≠ g; omega) _).far (p := ⟨g, 16, none⟩) (by show _ ≠ g; omega) _, { V with id := oi, ho := H0 }, (hS6.set_ 15 (.int .u32 oi)).set_ 16 (.int .i64 H0)⟩
    clear hK K
    refine wpAnyH_done (by kernel_rfl) ?_ _
    refine HK8.out _ _ ?_
    obtain ⟨w7, hw7⟩ : ∃ y, (w5.setCell ⟨g, 15, none⟩ (.int .u32 oi)).setCell ⟨g, 16, none⟩ (.int .i64 H0) = y := ⟨_, rfl⟩
    have z4 := b04.size
    have z5 := bd2.size
    have z6 := b5.size
    have m7 : Sm w4.heap.size [g] w4 w7 := by rw [← hw7]; exact (((Sm.of_below bd2 (Nat.le_refl _)).below b5 z5).setCell (p := ⟨g, 15, none⟩) (.inr (by simp)) _).setCell (p := ⟨g, 16, none⟩) (.inr (by simp)) _
    have hS7 : Blk w7 g 70 (sesC KS { V with id := oi, ho := H0 }) := by
      rw [← hw7]
      exact (hS6.set_ 15 (.int .u32 oi)).set_ 16 (.int .i64 H0)
    have ng : ∀ y, y ≠ g → y ∉ [g] := fun y hy => by simpa using hy
    have hX7 := m7.blk hX4 hX4.lt (ng _ (by omega))
    have hF7 := m7.blk hF4' hF4'.lt (ng _ (by omega))
    have hR7 := m7.blk hR4 hR4.lt (ng _ (by omega))
    have z7 := m7.size
    have d7 : DL rCap 2 w7 (Lo w7) A1 n1 oc := HD4.out.keep rCap_ok (fun b hb => by
      have hbx : b < w4.heap.size := by have := hb.2; have := hX4.lt; omega
      exact ⟨Nat.lt_of_lt_of_le hbx z7, m7.block b hbx (ng _ (by have := hb.1; omega))⟩)
    have HD7 := Lib.hid d7
    have m07 : Sm w.heap.size [g] w w7 := (Sm.of_below b04 (Nat.le_refl _)).trans (m7.less z4)
    rw [hw7]
    clear hw7 d7 y15 yf15 y16 yf16 hX5 hS5 hX6 hS6 bd2 b5 z5 z6 hX4 hF4 hF4' hR4 hS4 m7 HK8 HWD2 HMIN HHLD hHeld HD4 ht4 hlt4
    have x0 : w7.cell? ⟨x, 0, none⟩ = some (.int .i64 ov) := hX7.cell 0
    have x1 : w7.cell? ⟨x, 1, none⟩ = some (.int .i64 oa) := hX7.cell 1
    have x2 : w7.cell? ⟨x, 2, none⟩ = some (.int .i64 oh) := hX7.cell 2
    have x3 : w7.cell? ⟨x, 3, none⟩ = some (.int .u32 oi) := hX7.cell 3
    have x4 : w7.cell? ⟨x, 4, none⟩ = some (.slice A1 n1 c1) := hX7.cell 4
    go_wp2_with fail
    refine (wideHid ov oa oh oi A1 n1 c1 oc N0 B0 HB0 w7 HD7.out hcn).mono ?_
    rintro _ w8 ⟨rfl, b8⟩
    clear x0 x1 x2 x3 x4
    have hS8 := hS7.below b8 hS7.lt
    have hF8 := hF7.below b8 hF7.lt
    have hR8 := hR7.below b8 hR7.lt
    have y14 : w8.cell? ⟨g, 14, none⟩ = some (.bool V.wd) := hS8.cell 14
    have yf14 := hS8.frozen 14
    go_upto_region 10 with fail
    obtain ⟨w9, hw9⟩ : ∃ y, w8.setCell ⟨g, 14, none⟩ (.bool B0) = y := ⟨_, rfl⟩
    have hS9 : Blk w9 g 70 (sesC KS V3) := by
      rw [← hw9, ← HV3.out]
      exact hS8.set_ 14 (.bool B0)
    have m9 : Sm w.heap.size [g] w w9 := by rw [← hw9]; exact (m07.below b8 (Nat.le_trans z4 z7)).setCell (p := ⟨g, 14, none⟩) (.inr (by simp)) _
    have hF9 : Blk w9 (x + 1) 36 #[.int .i64 0, .int .i64 0, .slice A3 n3 c3] := by rw [← hw9]; exact hF8.far (p := ⟨g, 14, none⟩) (by show _ ≠ g; omega) _
    have hR9' : Blk w9 r 48 #[.int .i64 0, .int .i64 0, .int .i64 0, .slice none 0 0, .int .i64 0, .int .i64 0, .slice none 0 0, .slice none 0 0, .slice none 0 0, .int .i64 0, .slice none 0 0, .int .u32 0, .int .i64 0, .int .i64 0, .bool false, .bool false, .int .u32 0, .int .u32 0, .slice none 0 0, .slice none 0 0, .slice none 0 0, .bool false, .bool false, .bool false, .bool false, .bool false] := by rw [← hw9]; exact hR8.far (p := ⟨g, 14, none⟩) (by show _ ≠ g; omega) _
    rw [hw9]
    clear hw9 y14 yf14 hS8 hF8 hR8 hS7 hX7 hF7 hR7 m07 b8 HD7
    have ht9 := ht.sm m9 hS
    have hlt9 := hlt.sm m9 hlt.lt (hlt.ne hS)
    have f0 : w9.cell? ⟨x + 1, 0, none⟩ = some (.int .i64 0) := hF9.cell 0
    have f1 : w9.cell? ⟨x + 1, 1, none⟩ = some (.int .i64 0) := hF9.cell 1
    have f2 : w9.cell? ⟨x + 1, 2, none⟩ = some (.slice A3 n3 c3) := hF9.cell 2
    obtain rfl : n3 = 0 := bs4.len
    go_wp2_with fail
    refine (sesStep KS V3 7 0 0 A3 0 c3 [] g w9 hS9 BS.zero_ (by omega) (Lib.hid h31) hK ht9 hlt9).mono ?_
    rintro e99 w99 hd99
    obtain ⟨C, rfl, hCs, hC1, hR99, HO⟩ := hd99.put m9 (hwr) hgl hR9' z26_no8
    have hCi : (Tryd.prog.info? 48).map (·.size) = some C.size := by rw [hCs]; exact out_info
    have HOUT := Lib.hid HO
    clear HO
    rename_i hk1
    refine hk1 _ _ ?_
    clear hk1
    refine wpList_store_row rfl 48 (.tmp 4) (.tmp 68) rfl r C (by rfl) (by rfl) 48 #[.int .i64 0, .int .i64 0, .int .i64 0, .slice none 0 0, .int .i64 0, .int .i64 0, .slice none 0 0, .slice none 0 0, .slice none 0 0, .int .i64 0, .slice none 0 0, .int .u32 0, .int .i64 0, .int .i64 0, .bool false, .bool false, .int .u32 0, .int .u32 0, .slice none 0 0, .slice none 0 0, .slice none 0 0, .bool false, .bool false, .bool false, .bool false, .bool false] hR99 hCi hCs.symm hC1 ?_
    go_simp
    rename_i hk kk
    refine hk _ _ (wp_ret ?_)
    exact bodyPost_ret (out_ret rfl _ _ r C hCs rfl (hR99.row _)) rfl (by rw [HM.out.1, HM.out.2.1, HM.out.2.2]; exact HOUT.out)
end Go.Proofs.YthgjknmfghjioaaDoor
