/- Walks of layer 3 (paths): one that is read. Conditions: the table of digits. -/
import Derived.Test.YtlpkngjeihoknaaDoorProg
import Derived.WalkKit
import Derived.WalkSpells
import Derived.WalkLawsBesides
import Derived.Outline
import Derived.Deep.QuietTactic
import Derived.BigQuiet
import Derived.Handy
import Derived.Lib.Hide
import Derived.Lib.OthersKept
import Derived.Lib.RuneCount
import Derived.Lib.TrimU
import Derived.Laws.RangeAny
import Derived.Test.YtlpkngjeihoknaaDoorAspG
import Derived.Test.YtlpkngjeihoknaaDoorAspJ
namespace Go.Proofs.YtlpkngjeihoknaaDoor
open Go.RowKit
set_option linter.unusedSimpArgs false
set_option linter.unusedVariables false
def stepP (st : Ps) (was c : Int) : Ps :=
  if 48 ≤ c ∧ c ≤ 57 then { st with n := min (10 * st.n + (c - 48)) 1099511627776 }
  else if c = 44 ∨ c = 125 then { addPs st 1 with within := decide (c = 44) }
  else if c = 32 ∧ was ≠ 125 then addPs st 2
  else st
def runP (s : ByteArray) : Nat → Nat → Ps → Int → Ps × Int
  | 0, _, st, was => (st, was)
  | f + 1, pos, st, was => if pos < s.size then runP s f (pos + (Utf8.decode s pos).2) (stepP st was ((Utf8.decode s pos).1 : Nat)) ((Utf8.decode s pos).1 : Nat) else (st, was)
theorem runP_end (s : ByteArray) (f pos : Nat) (st : Ps) (was : Int) (h : ¬ pos < s.size) : runP s f pos st was = (st, was) := by
  cases f with
  | zero => rfl
  | succ f => rw [runP, if_neg h]
def finP (r : Ps × Int) : Ps := if 48 ≤ r.2 ∧ r.2 ≤ 57 then addPs r.1 2 else r.1
/-- The path that a text's signs say. -/
def parseOut (s : ByteArray) : List Seg := (finP (runP s s.size 0 ⟨[], 0, false⟩ 32)).out
def parseR (s : ByteArray) : List Seg × Bool := if textA (parseOut s) = s.data.toList then (parseOut s, true) else ([], false)
theorem sumN_add (out : List Seg) (within : Bool) (kind v : Int) : sumN (addOut out within kind v) = sumN out + 1 ∧ (addOut out within kind v).length ≤ out.length + 1 := by
  rcases List.eq_nil_or_concat out with rfl | ⟨o, x, rfl⟩
  · rw [addOut_nil]; simp [sumN]
  · rw [List.concat_eq_append]
    by_cases h : kind = 2 ∨ within = true
    · by_cases hx : x.1 = kind
      · rw [addOut_join hx h, sumN_app, sumN_app]
        refine ⟨by simp [sumN]; omega, by simp⟩
      · rw [addOut_kind hx, sumN_app]
        refine ⟨by simp [sumN], by simp⟩
    · rw [addOut_no h, sumN_app]
      refine ⟨by simp [sumN], by simp⟩
/-- What a round keeps. -/
def FitP (pos : Nat) (st : Ps) : Prop := 0 ≤ st.n ∧ st.n ≤ 1099511627776 ∧ sumN st.out ≤ pos ∧ st.out.length ≤ pos
theorem FitP.add {pos k : Nat} {st : Ps} (h : FitP pos st) (kind : Int) (hk : 1 ≤ k) : FitP (pos + k) (addPs st kind) := by
  have := sumN_add st.out st.within kind (IntKind.u32.wrap st.n)
  obtain ⟨h1, h2, h3, h4⟩ := h
  unfold addPs
  refine ⟨?_, ?_, ?_, ?_⟩
  · show (0 : Int) ≤ 0; omega
  · show (0 : Int) ≤ _; omega
  · show sumN (addOut _ _ _ _) ≤ _; omega
  · show (addOut _ _ _ _).length ≤ _; omega
theorem own_iter {w : World} {base n kk size pos pos' : Nat} {e : TypeId} {v : Value} {xs : List Value} {s : ByteArray} (h : w.ownsRow base e size v n xs) (hk : w.heap[kk]? = some (.stringIter s pos)) : (w.iterAt kk s pos').ownsRow base e size v n xs := by
  refine ⟨h.1, ?_⟩
  rcases h.2 with h2 | ⟨g, cap, cur, hv, hb, hh, r⟩
  · exact .inl h2
  · refine .inr ⟨g, cap, cur, hv, hb, (Lib.iterAt_other w kk g s pos' ?_).trans hh, r⟩
    rintro rfl
    rw [hk] at hh
    cases hh
theorem blk_iter {w : World} {kk g pos pos' : Nat} {t : TypeId} {cs : Array Value} {s : ByteArray} (h : Blk w g t cs) (hk : w.heap[kk]? = some (.stringIter s pos)) : Blk (w.iterAt kk s pos') g t cs := by
  have h2 : w.heap[g]? = some (.cells cs t (0, 0)) := h
  refine (Lib.iterAt_other w kk g s pos' ?_).trans h2
  rintro rfl
  rw [hk] at h2
  cases h2
theorem pb_ne {w : World} {g g' : Nat} {t t' : TypeId} {cs cs' : Array Value} (h : Blk w g t cs) (h' : Blk w g' t' cs') (hne : t ≠ t') : some g ≠ some g' := by
  intro e
  injection e with e
  subst e
  have := h.symm.trans h'
  injection this with h1
  injection h1 with _ h2 _
  exact hne h2
theorem PB.iter {w : World} {base go gw gn kk pos pos' : Nat} {st : Ps} {s : ByteArray} (h : PB w base go gw gn st) (hk : w.heap[kk]? = some (.stringIter s pos)) : PB (w.iterAt kk s pos') base go gw gn st := by
  obtain ⟨A, n, c, L, hO, hN, hW, hop, hL, r⟩ := h
  exact ⟨A, n, c, L, blk_iter hO hk, blk_iter hN hk, blk_iter hW hk, ⟨hop.1, own_iter hop.2.1 hk, fun y hy => ⟨(hop.2.2.1 y hy).1, own_iter (hop.2.2.1 y hy).2.1 hk, (hop.2.2.1 y hy).2.2⟩, hop.2.2.2⟩, hL, r⟩
theorem PB.below {w w' : World} {base go gw gn : Nat} {st : Ps} (h : PB w base go gw gn st) (hb : Below w.heap.size w w') : PB w' base go gw gn st := by
  obtain ⟨A, n, c, L, hO, hN, hW, hop, hL, r⟩ := h
  exact ⟨A, n, c, L, hO.below hb hO.lt, hN.below hb hN.lt, hW.below hb hW.lt, hop.call hb, hL, r⟩
theorem width4 (s : ByteArray) (pos : Nat) : (Utf8.decode s pos).2 ≤ 4 := by
  simp only [Utf8.decode]
  repeat' split
  all_goals simp [Utf8.runeError]
/-- A path that was read, or none. -/
def RetPr (w : World) (r : List Seg × Bool) (e : Ending) (w' : World) : Prop := ∃ (A : Option Addr) (n c : Nat) (L : List (Seg × Hd)), e = .returned (.tuple #[.slice A n c, .bool r.2]) ∧ OP w' w.heap.size A n c L ∧ L.map (·.1) = r.1 ∧ Below w.heap.size w w'
theorem boxes3 (w : World) (c1 c2 c3 : Array Value) (t1 t2 t3 : TypeId) : ∃ W, ((w.alloc (.cells c1 t1)).alloc (.cells c2 t2)).alloc (.cells c3 t3) = W ∧ Blk W w.heap.size t1 c1 ∧ Blk W (w.heap.size + 1) t2 c2 ∧ Blk W (w.heap.size + 1 + 1) t3 c3 ∧ W.heap.size = w.heap.size + 1 + 1 + 1 ∧ Below w.heap.size w W := by
  have hz : (w.alloc (.cells c1 t1)).heap.size = w.heap.size + 1 := by simp
  have hz2 : ((w.alloc (.cells c1 t1)).alloc (.cells c2 t2)).heap.size = w.heap.size + 1 + 1 := by simp
  have h2 := Blk.new (w.alloc (.cells c1 t1)) t2 c2
  have h3 := Blk.new ((w.alloc (.cells c1 t1)).alloc (.cells c2 t2)) t3 c3
  rw [hz] at h2
  rw [hz2] at h3
  exact ⟨_, rfl, ((Blk.new w t1 c1).alloc _).alloc _, h2.alloc _, h3, by simp, (((Below.refl _ _).alloc (Nat.le_refl _) _).alloc (by omega) _).alloc (by omega) _⟩
set_option maxHeartbeats 8000000 in
set_option maxRecDepth 100000 in
theorem aspParse (s : ByteArray) (w : World) (ht : DigTab w) (hs : s.size ≤ 10000) :
    Calls Tryd.prog 21 #[.string s] w (RetPr w (parseR s)) := by
  have HPO := Lib.hid (show parseOut s = (finP (runP s s.size 0 ⟨[], 0, false⟩ 32)).out from rfl)
  go_enter Tryd.func21, Tryd.ntmps21
  go_upto_region 5 with fail
  obtain ⟨w3, hw3, hO, hN, hW, hz3, b3⟩ := boxes3 w #[.slice none 0 0] #[.int .i64 0] #[.bool false] 22 3 4
  have PB3 : PB w3 w.heap.size w.heap.size (w.heap.size + 1 + 1) (w.heap.size + 1) ⟨[], 0, false⟩ := ⟨none, 0, 0, [], hO, hN, hW, OP.nil_, rfl, Nat.le_refl _, by omega, by omega⟩
  try rw [hw3]
  clear hw3 hO hN hW
  obtain ⟨go, hgo⟩ : ∃ go, w.heap.size = go := ⟨_, rfl⟩
  obtain ⟨gw, hgw⟩ : ∃ gw, w.heap.size + 1 + 1 = gw := ⟨_, rfl⟩
  obtain ⟨gn, hgn⟩ : ∃ gn, w.heap.size + 1 = gn := ⟨_, rfl⟩
  rw [hgw, hgn] at PB3
  try rw [hgw]
  try rw [hgn]
  have PB4 : PB w3 w.heap.size go gw gn ⟨[], 0, false⟩ := by rw [← hgo]; exact hgo ▸ PB3
  have HGO := Lib.hid hgo
  clear hgo hgw hgn PB3
  try rw [HGO.out]
  have PB5 : PB (w3.iter s 0) w.heap.size go gw gn ⟨[], 0, false⟩ := PB4.below ((Below.refl w3.heap.size w3).alloc (Nat.le_refl _) (.stringIter s 0))
  have b5 : Below w.heap.size w (w3.iter s 0) := b3.alloc b3.size (.stringIter s 0)
  obtain ⟨kk, hkk⟩ : ∃ kk, w3.heap.size = kk := ⟨_, rfl⟩
  have hkw : w.heap.size ≤ kk := by rw [← hkk]; exact b3.size
  clear hz3
  go_wp2_with fail
  try rw [hkk]
  have Hkk := Lib.hid hkk
  clear hkk
  go_loopw [8] (fun v8 w' => ∃ (f pos : Nat) (st : Ps) (was : Int), v8 = .int .i32 was ∧ s.size ≤ pos + f ∧ pos ≤ s.size + 4 ∧ w'.heap[kk]? = some (.stringIter s pos) ∧ PB w' w.heap.size go gw gn st ∧ Below w.heap.size w w' ∧ FitP pos st ∧ Hid (runP s s.size 0 ⟨[], 0, false⟩ 32 = runP s f pos st was)) (fun _ w' => s.size - w'.iterPos kk)
  case atStart => exact ⟨s.size, 0, ⟨[], 0, false⟩, 32, rfl, by omega, by omega, by rw [← Hkk.out]; exact World.iter_heap _ _ _, PB5, b5, ⟨by simp, by simp, by simp [sumN], by simp⟩, Lib.hid rfl⟩
  case round =>
    obtain ⟨f, pos, st, was, rfl, hf, hp4, hk, hPB, hb, hfit, HE⟩ := hrel
    by_cases hlt : pos < s.size
    · obtain ⟨f, rfl⟩ : ∃ f', f = f' + 1 := ⟨f - 1, by omega⟩
      have hnx := fun ty => Lib.run_next_any_at (P := Tryd.prog) wr kk s pos ty hk hlt
      have hwd := Lib.decode_width_pos s pos hlt
      have hw4 := width4 s pos
      have hE := HE.out
      rw [runP, if_pos hlt] at hE
      have hrl := Lib.rune_le s pos
      obtain ⟨c, k, hd⟩ : ∃ c k, Utf8.decode s pos = (c, k) := ⟨_, _, rfl⟩
      rw [hd] at hnx hwd hE hw4 hrl
      simp only at hnx hwd hE hw4 hrl
      have HEE := Lib.hid hE
      have HP := Lib.hid (show wr.iterPos kk = pos by unfold World.iterPos; rw [hk])
      have hk1 := Lib.iterAt_heap wr kk s pos (pos + k) hk
      have hb1 := Lib.below_iterAt hb (k := kk) hkw s (pos + k)
      have hPB1 := hPB.iter (pos' := pos + k) hk
      obtain ⟨w4, hw4'⟩ : ∃ W, wr.iterAt kk s (pos + k) = W := ⟨_, rfl⟩
      rw [hw4'] at hk1 hb1 hPB1
      simp only [hw4'] at hnx
      clear hE hd hw4' hk hPB
      have hfitk := hfit
      obtain ⟨hf1, hf2, hf3, hf4⟩ := hfit
      have HF3 := Lib.hid (show sumN st.out ≤ 100000 by omega)
      have hf5 : st.out.length ≤ 100000 := by omega
      have hbz := hb1.size
      by_cases hd : 48 ≤ c ∧ c ≤ 57
      · have hdp := hd
        obtain ⟨hd1, hd2⟩ := hd
        have d1 : decide ((48 : Int) ≤ (c : Int)) = true := decide_eq_true (by omega)
        have d2 : decide ((c : Int) ≤ (57 : Int)) = true := decide_eq_true (by omega)
        have HST := Lib.hid (show stepP st was c = { st with n := min (10 * st.n + ((c : Int) - 48)) 1099511627776 } by unfold stepP; rw [if_pos (by omega)])
        obtain ⟨out, nn, within⟩ := st
        obtain ⟨A, n, cc, L, hO, hN, hW, hop, hL, r1, r2, r3⟩ := hPB1
        simp only at hN hf1 hf2
        have n0 := hN.cell 0
        have fn := hN.frozen 0
        have wa : IntKind.i64.wrap (10 * nn) = 10 * nn := IntWalk.i64_in _ ⟨by omega, by omega⟩
        have wb : IntKind.i32.wrap ((c : Int) - 48) = (c : Int) - 48 := IntWalk.i32_in _ ⟨by omega, by omega⟩
        have wb2 : IntKind.i64.wrap ((c : Int) - 48) = (c : Int) - 48 := IntWalk.i64_in _ ⟨by omega, by omega⟩
        have wc : IntKind.i64.wrap (10 * nn + ((c : Int) - 48)) = 10 * nn + ((c : Int) - 48) := IntWalk.i64_in _ ⟨by omega, by omega⟩
        have HS2 := Lib.hid (show stepP ⟨out, nn, within⟩ was c = ⟨out, min (10 * nn + ((c : Int) - 48)) 1099511627776, within⟩ by rw [HST.out])
        have G := only_setCell (World.grownBy.refl w4 (some gn)) (p := ⟨gn, 0, none⟩) (.inl rfl) (.int .i64 (min (10 * nn + ((c : Int) - 48)) 1099511627776))
        have hN2 := hN.set_ 0 (.int .i64 (min (10 * nn + ((c : Int) - 48)) 1099511627776))
        simp only [List.setIfInBounds_toArray, List.set_cons_succ, List.set_cons_zero] at hN2
        have hPB2 : PB (w4.setCell ⟨gn, 0, none⟩ (.int .i64 (min (10 * nn + ((c : Int) - 48)) 1099511627776))) w.heap.size go gw gn ⟨out, min (10 * nn + ((c : Int) - 48)) 1099511627776, within⟩ := ⟨A, n, cc, L, hO.grown G (pb_ne hO hN (by decide)), hN2, hW.grown G (pb_ne hW hN (by decide)), hop.setAt hN (by decide) (by decide) G, hL, r1, r2, r3⟩
        have b6 := hb1.setCell (p := ⟨gn, 0, none⟩) r3 (.int .i64 (min (10 * nn + ((c : Int) - 48)) 1099511627776))
        have hk6 := ItK.set hN 0 (.int .i64 (min (10 * nn + ((c : Int) - 48)) 1099511627776)) _ _ _ hk1
        clear hO hN hW
        go_wp2_with fail
        go_roundw
        case rel => exact ⟨f, pos + k, ⟨out, min (10 * nn + ((c : Int) - 48)) 1099511627776, within⟩, c, rfl, by omega, by omega, hk6, hPB2, b6, ⟨by simp only; omega, by simp only; omega, Nat.le_trans hf3 (by omega), Nat.le_trans hf4 (by omega)⟩, Lib.hid (by rw [HEE.out, HS2.out])⟩
        case measure =>
          rw [HP.out, show (w4.setCell ⟨gn, 0, none⟩ (.int .i64 (min (10 * nn + ((c : Int) - 48)) 1099511627776))).iterPos kk = pos + k by unfold World.iterPos; rw [hk6]]
          omega
      have hdg : decide ((48 : Int) ≤ (c : Int)) = false ∨ (decide ((48 : Int) ≤ (c : Int)) = true ∧ decide ((c : Int) ≤ (57 : Int)) = false) := by
        by_cases h : 48 ≤ c
        · right; exact ⟨decide_eq_true (by omega), decide_eq_false (by omega)⟩
        · left; exact decide_eq_false (by omega)
      by_cases hcm : c = 44
      · subst hcm
        have HST := Lib.hid (show stepP st was ((44 : Nat) : Int) = ⟨(addPs st 1).out, (addPs st 1).n, true⟩ by unfold stepP; rw [if_neg (by omega), if_pos (.inl rfl)]; rfl)
        have HAD := Lib.hid (parseAdd 1 w4 w.heap.size go gw gn st hPB1 hf5 HF3 hbz)
        have HFA := Lib.hid (hfitk.add 1 hwd)
        clear hd
        rcases hdg with d1 | ⟨d1, d2⟩
        all_goals
          go_wp2_with fail
          refine HAD.out.mono ?_
          rintro _ w5 ⟨rfl, hPB5, b5', hI5⟩
          have hk5 := hI5 _ _ _ hk1
          obtain ⟨A, n, cc, L, hO, hN, hW, hop, hL, r1, r2, r3⟩ := hPB5
          have fw := hW.frozen 0
          have cw := hW.cell 0
          have G := only_setCell (World.grownBy.refl w5 (some gw)) (p := ⟨gw, 0, none⟩) (.inl rfl) (.bool true)
          have hW2 := hW.set_ 0 (.bool true)
          simp only [List.setIfInBounds_toArray, List.set_cons_succ, List.set_cons_zero] at hW2
          have hPB6 : PB (w5.setCell ⟨gw, 0, none⟩ (.bool true)) w.heap.size go gw gn ⟨(addPs st 1).out, (addPs st 1).n, true⟩ := ⟨A, n, cc, L, hO.grown G (pb_ne hO hW (by decide)), hN.grown G (pb_ne hN hW (by decide)), hW2, hop.setAt hW (by decide) (by decide) G, hL, r1, r2, r3⟩
          have b6 := (hb1.trans b5').setCell (p := ⟨gw, 0, none⟩) r2 (.bool true)
          have hk6 := ItK.set hW 0 (.bool true) _ _ _ hk5
          clear hO hN hW
          go_wp2_with fail
          go_roundw
          case rel => exact ⟨f, pos + k, ⟨(addPs st 1).out, (addPs st 1).n, true⟩, 44, rfl, by omega, by omega, hk6, hPB6, b6, HFA.out, Lib.hid (by rw [HEE.out, HST.out]; rfl)⟩
          case measure =>
            rw [HP.out, show (w5.setCell ⟨gw, 0, none⟩ (.bool true)).iterPos kk = pos + k by unfold World.iterPos; rw [hk6]]
            omega
      have t44 : ((c : Int) == 44) = false := by simp; omega
      by_cases hcb : c = 125
      · subst hcb
        have HST := Lib.hid (show stepP st was ((125 : Nat) : Int) = ⟨(addPs st 1).out, (addPs st 1).n, false⟩ by unfold stepP; rw [if_neg (by omega), if_pos (.inr rfl)]; rfl)
        have HAD := Lib.hid (parseAdd 1 w4 w.heap.size go gw gn st hPB1 hf5 HF3 hbz)
        have HFA := Lib.hid (hfitk.add 1 hwd)
        clear hd hcm
        rcases hdg with d1 | ⟨d1, d2⟩
        all_goals
          go_wp2_with fail
          refine HAD.out.mono ?_
          rintro _ w5 ⟨rfl, hPB5, b5', hI5⟩
          have hk5 := hI5 _ _ _ hk1
          obtain ⟨A, n, cc, L, hO, hN, hW, hop, hL, r1, r2, r3⟩ := hPB5
          have fw := hW.frozen 0
          have cw := hW.cell 0
          have G := only_setCell (World.grownBy.refl w5 (some gw)) (p := ⟨gw, 0, none⟩) (.inl rfl) (.bool false)
          have hW2 := hW.set_ 0 (.bool false)
          simp only [List.setIfInBounds_toArray, List.set_cons_succ, List.set_cons_zero] at hW2
          have hPB6 : PB (w5.setCell ⟨gw, 0, none⟩ (.bool false)) w.heap.size go gw gn ⟨(addPs st 1).out, (addPs st 1).n, false⟩ := ⟨A, n, cc, L, hO.grown G (pb_ne hO hW (by decide)), hN.grown G (pb_ne hN hW (by decide)), hW2, hop.setAt hW (by decide) (by decide) G, hL, r1, r2, r3⟩
          have b6 := (hb1.trans b5').setCell (p := ⟨gw, 0, none⟩) r2 (.bool false)
          have hk6 := ItK.set hW 0 (.bool false) _ _ _ hk5
          clear hO hN hW
          go_wp2_with fail
          go_roundw
          case rel => exact ⟨f, pos + k, ⟨(addPs st 1).out, (addPs st 1).n, false⟩, 125, rfl, by omega, by omega, hk6, hPB6, b6, HFA.out, Lib.hid (by rw [HEE.out, HST.out]; rfl)⟩
          case measure =>
            rw [HP.out, show (w5.setCell ⟨gw, 0, none⟩ (.bool false)).iterPos kk = pos + k by unfold World.iterPos; rw [hk6]]
            omega
      have t125 : ((c : Int) == 125) = false := by simp; omega
      by_cases hsp : c = 32 ∧ was ≠ 125
      · obtain ⟨hsp1, hsp2⟩ := hsp
        subst hsp1
        have tw : (was != 125) = true := by simpa using hsp2
        have HST := Lib.hid (show stepP st was ((32 : Nat) : Int) = addPs st 2 by unfold stepP; rw [if_neg (by omega), if_neg (by omega), if_pos ⟨rfl, hsp2⟩])
        have HAD := Lib.hid (parseAdd 2 w4 w.heap.size go gw gn st hPB1 hf5 HF3 hbz)
        have HFA := Lib.hid (hfitk.add 2 hwd)
        clear hd hcm hsp2 hcb
        rcases hdg with d1 | ⟨d1, d2⟩
        all_goals
          go_wp2_with fail
          refine HAD.out.mono ?_
          rintro _ w5 ⟨rfl, hPB5, b5', hI5⟩
          have hk5 := hI5 _ _ _ hk1
          go_wp2_with fail
          go_roundw
          case rel => exact ⟨f, pos + k, addPs st 2, 32, rfl, by omega, by omega, hk5, hPB5, hb1.trans b5', HFA.out, Lib.hid (by rw [HEE.out, HST.out]; rfl)⟩
          case measure =>
            rw [HP.out, show w5.iterPos kk = pos + k by unfold World.iterPos; rw [hk5]]
            omega
      have HST := Lib.hid (show stepP st was (c : Int) = st by unfold stepP; rw [if_neg (by omega), if_neg (by omega), if_neg (by rintro ⟨h1, h2⟩; exact hsp ⟨by omega, h2⟩)])
      have hsp' : ((c : Int) == 32) = false ∨ (((c : Int) == 32) = true ∧ (was != 125) = false) := by
        by_cases h : c = 32
        · right
          refine ⟨by rw [h]; rfl, ?_⟩
          by_cases h2 : was = 125
          · rw [h2]; rfl
          · exact absurd ⟨h, h2⟩ hsp
        · left; simp; omega
      clear hd hcm hcb hsp
      rcases hdg with d1 | ⟨d1, d2⟩
      all_goals
        rcases hsp' with t32 | ⟨t32, tw⟩
        all_goals
          go_wp2_with fail
          go_roundw
          case rel => exact ⟨f, pos + k, st, c, rfl, by omega, by omega, hk1, hPB1, hb1, ⟨hf1, hf2, Nat.le_trans hf3 (by omega), Nat.le_trans hf4 (by omega)⟩, Lib.hid (by rw [HEE.out, HST.out])⟩
          case measure =>
            rw [HP.out, show w4.iterPos kk = pos + k by unfold World.iterPos; rw [hk1]]
            omega
    · have hnx := fun ty => Lib.run_next_end_at (P := Tryd.prog) wr kk s pos ty hk hlt
      have HR := Lib.hid (show runP s s.size 0 ⟨[], 0, false⟩ 32 = (st, was) by rw [HE.out, runP_end s f pos st was hlt])
      obtain ⟨hf1, hf2, hf3, hf4⟩ := hfit
      have HF3 := Lib.hid (show sumN st.out ≤ 100000 by omega)
      have hf5 : st.out.length ≤ 100000 := by omega
      have hbz := hb.size
      by_cases hd : 48 ≤ was ∧ was ≤ 57
      · have d1 : decide ((48 : Int) ≤ was) = true := decide_eq_true hd.1
        have d2 : decide (was ≤ (57 : Int)) = true := decide_eq_true hd.2
        have HO := Lib.hid (show parseOut s = (addPs st 2).out by rw [HPO.out, HR.out]; unfold finP; rw [if_pos hd])
        have HAD := Lib.hid (parseAdd 2 wr w.heap.size go gw gn st hPB hf5 HF3 hbz)
        have HLL := Lib.hid (show (addPs st 2).out.length ≤ 20000 by have := (sumN_add st.out st.within 2 (IntKind.u32.wrap st.n)).2; show (addOut _ _ _ _).length ≤ _; omega)
        clear hd
        go_wp2_with fail
        refine HAD.out.mono ?_
        rintro _ w5 ⟨rfl, hPB5, b5', hI5⟩
        have b06 := hb.trans b5'
        obtain ⟨A, n, cc, L, hO, hN, hW, hop, hL, r1, r2, r3⟩ := hPB5
        have HLO := Lib.hid (show L.map (·.1) = parseOut s by rw [HO.out, hL])
        have hnl : n ≤ 100000 := by have h1 := hop.1; have h2 := congrArg List.length hL; rw [List.length_map] at h2; have := HLL.out; omega
        have o0 := hO.cell 0
        have hdl := hop.dl
        have HTX := Lib.hid (aspText A n cc (L.map (·.1)) w5 hdl hnl (ht.call b06))
        obtain ⟨T, hT⟩ : ∃ T, textS (L.map (·.1)) = T := ⟨_, rfl⟩
        rw [hT] at HTX
        have HTT := Lib.hid (show T.data.toList = textA (parseOut s) by rw [← hT, HLO.out]; rfl)
        clear hT hN hW
        by_cases hq : T.data.toList = s.data.toList
        · have tq : (T.toList == s.toList) = true := by simp [ByteArray.toList_eq, hq]
          have HRR := Lib.hid (show parseR s = (parseOut s, true) by unfold parseR; rw [if_pos (by rw [← HTT.out]; exact hq)])
          clear hq
          go_wp2_with fail
          refine HTX.out.mono ?_
          rintro _ w8 ⟨rfl, b8⟩
          have o08 := (hO.below b8 hO.lt).cell 0
          have hop8 := hop.call b8
          clear o0
          go_wp2_with fail
          go_ret2
          exact ⟨A, n, cc, L, by rw [HRR.out] <;> rfl, hop8, by rw [HRR.out]; exact HLO.out, btr b06 b8 b06.size⟩
        · have tq : (T.toList == s.toList) = false := by simpa [ByteArray.toList_eq] using hq
          have HRR := Lib.hid (show parseR s = ([], false) by unfold parseR; rw [if_neg (by rw [← HTT.out]; exact hq)])
          clear hq
          go_wp2_with fail
          refine HTX.out.mono ?_
          rintro _ w8 ⟨rfl, b8⟩
          go_wp2_with fail
          go_ret2
          exact ⟨none, 0, 0, [], by rw [HRR.out] <;> rfl, OP.nil_, by rw [HRR.out]; rfl, btr b06 b8 b06.size⟩
      · have hdg : decide ((48 : Int) ≤ was) = false ∨ (decide ((48 : Int) ≤ was) = true ∧ decide (was ≤ (57 : Int)) = false) := by
          by_cases h : 48 ≤ was
          · right; exact ⟨decide_eq_true (by omega), decide_eq_false (by omega)⟩
          · left; exact decide_eq_false (by omega)
        have HO := Lib.hid (show parseOut s = st.out by rw [HPO.out, HR.out]; unfold finP; rw [if_neg hd])
        have HLL := Lib.hid (show st.out.length ≤ 20000 by omega)
        clear hd
        have b06 := hb
        obtain ⟨A, n, cc, L, hO, hN, hW, hop, hL, r1, r2, r3⟩ := hPB
        have HLO := Lib.hid (show L.map (·.1) = parseOut s by rw [HO.out, hL])
        rcases hdg with d1 | ⟨d1, d2⟩
        all_goals
          have hnl : n ≤ 100000 := by have h1 := hop.1; have h2 := congrArg List.length hL; rw [List.length_map] at h2; have := HLL.out; omega
          have o0 := hO.cell 0
          have hdl := hop.dl
          have HTX := Lib.hid (aspText A n cc (L.map (·.1)) wr hdl hnl (ht.call b06))
          obtain ⟨T, hT⟩ : ∃ T, textS (L.map (·.1)) = T := ⟨_, rfl⟩
          rw [hT] at HTX
          have HTT := Lib.hid (show T.data.toList = textA (parseOut s) by rw [← hT, HLO.out]; rfl)
          clear hT hN hW
          by_cases hq : T.data.toList = s.data.toList
          · have tq : (T.toList == s.toList) = true := by simp [ByteArray.toList_eq, hq]
            have HRR := Lib.hid (show parseR s = (parseOut s, true) by unfold parseR; rw [if_pos (by rw [← HTT.out]; exact hq)])
            clear hq
            go_wp2_with fail
            refine HTX.out.mono ?_
            rintro _ w8 ⟨rfl, b8⟩
            have o08 := (hO.below b8 hO.lt).cell 0
            have hop8 := hop.call b8
            clear o0
            go_wp2_with fail
            go_ret2
            exact ⟨A, n, cc, L, by rw [HRR.out] <;> rfl, hop8, by rw [HRR.out]; exact HLO.out, btr b06 b8 b06.size⟩
          · have tq : (T.toList == s.toList) = false := by simpa [ByteArray.toList_eq] using hq
            have HRR := Lib.hid (show parseR s = ([], false) by unfold parseR; rw [if_neg (by rw [← HTT.out]; exact hq)])
            clear hq
            go_wp2_with fail
            refine HTX.out.mono ?_
            rintro _ w8 ⟨rfl, b8⟩
            go_wp2_with fail
            go_ret2
            exact ⟨none, 0, 0, [], by rw [HRR.out] <;> rfl, OP.nil_, by rw [HRR.out]; rfl, btr b06 b8 b06.size⟩
end Go.Proofs.YtlpkngjeihoknaaDoor
