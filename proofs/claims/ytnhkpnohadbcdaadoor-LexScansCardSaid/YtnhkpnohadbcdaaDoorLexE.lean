/- Walks of layer 13 (lex): the words of a line. Conditions: the tables. -/
import Derived.Test.YtnhkpnohadbcdaaDoorProg
import Derived.WalkKit
import Derived.WalkSpells
import Derived.WalkLawsBesides
import Derived.Outline
import Derived.Deep.QuietTactic
import Derived.BigQuiet
import Derived.Handy
import Derived.Lib.Hide
import Derived.Lib.OthersKept
import Derived.Lib.RuneCount
import Derived.Laws.RangeAny
import Derived.Deep.DeepCutAuto
import Derived.Deep.CutBlock
import Derived.Test.YtnhkpnohadbcdaaDoorLexB
import Derived.Test.YtnhkpnohadbcdaaDoorLexD
namespace Go.Proofs.YtnhkpnohadbcdaaDoor
open Go.RowKit
set_option linter.unusedSimpArgs false
set_option linter.unusedVariables false
noncomputable def stepSc (s : ByteArray) (pos : Nat) (st : Sc) : Sc := if st.within = true then inSt st ((Utf8.decode s pos).1 : Nat) else outSt st s pos ((Utf8.decode s pos).1 : Nat)
noncomputable def runSc (s : ByteArray) : Nat → Nat → Sc → Sc
  | 0, _, st => st
  | f + 1, pos, st => if pos < s.size then runSc s f (pos + (Utf8.decode s pos).2) (stepSc s pos st) else st
def initSc : Sc := ⟨[], -1, [], false, false, false, false⟩
noncomputable def endSc (s : ByteArray) : Sc := runSc s s.size 0 initSc
theorem runSc_end (s : ByteArray) (f pos : Nat) (st : Sc) (h : ¬ pos < s.size) : runSc s f pos st = st := by
  cases f with
  | zero => rfl
  | succ f => rw [runSc, if_neg h]
/-- The words of a line, and an error's number. -/
noncomputable def scanT (s : ByteArray) : List Tk × Int :=
  if 200 < s.size then ([], 4) else if rightS s = false then ([], 5) else if (endSc s).bad = true ∨ (endSc s).within = true then ([], 5)
  else ((endSc s).out ++ (if 0 ≤ (endSc s).frm then [wordOf (s.extract (endSc s).frm.toNat s.size)] else []), 0)
/-- What a round keeps. -/
def Fit (s : ByteArray) (pos : Nat) (st : Sc) : Prop := st.frm ≤ (pos : Int) ∧ st.frm ≤ (s.size : Int) ∧ st.out.length ≤ pos ∧ st.q.length ≤ pos
theorem inSt_fit {s : ByteArray} {pos k : Nat} {st : Sc} {c : Int} (h : Fit s pos st) (hk : 1 ≤ k) : Fit s (pos + k) (inSt st c) := by
  obtain ⟨h1, h2, h3, h4⟩ := h
  unfold inSt
  split
  · exact ⟨by simp only; omega, h2, by simp only; omega, by simp; omega⟩
  · split
    · exact ⟨by simp only; omega, h2, by simp only; omega, by simp only; omega⟩
    · split
      · exact ⟨by simp only; omega, h2, by simp; omega, by simp⟩
      · exact ⟨by simp only; omega, h2, by simp only; omega, by simp; omega⟩
theorem outSt_fit {s : ByteArray} {pos k : Nat} {st : Sc} {c : Int} (h : Fit s pos st) (hk : 1 ≤ k) (hp : pos < s.size) : Fit s (pos + k) (outSt st s pos c) := by
  obtain ⟨h1, h2, h3, h4⟩ := h
  unfold outSt
  split
  · refine ⟨by simp only; omega, by simp only; omega, ?_, by simp only; omega⟩
    simp only
    split
    · simp; omega
    · omega
  · split
    · exact ⟨by simp only; omega, h2, by simp only; omega, by simp only; omega⟩
    · split
      · exact ⟨by simp only; omega, h2, by simp only; omega, by simp only; omega⟩
      · split
        · exact ⟨by simp only; omega, by simp only; omega, by simp only; omega, by simp only; omega⟩
        · exact ⟨by omega, h2, by omega, by omega⟩
theorem SC.keep {w w' : World} {base g : Nat} {st : Sc} (h : SC w base g st) (hk : ∀ (b : Nat) (cs : Array Value) (t : TypeId) (f : Nat × Nat), w.heap[b]? = some (.cells cs t f) → w'.heap[b]? = w.heap[b]?) : SC w' base g st := by
  obtain ⟨A1, n1, c1, A2, n2, c2, hS, h1, h2, hb⟩ := h
  have own : ∀ {e : TypeId} {v : Value} {n : Nat} {xs : List Value}, w.ownsRow base e 1 v n xs → w'.ownsRow base e 1 v n xs := by
    intro e v n xs hh
    refine ⟨hh.1, ?_⟩
    rcases hh.2 with h2 | ⟨g', cap, cur, hv, hb', hh', r⟩
    · exact .inl h2
    · exact .inr ⟨g', cap, cur, hv, hb', (hk g' _ _ _ hh').trans hh', r⟩
  exact ⟨A1, n1, c1, A2, n2, c2, (hk g _ _ _ hS).trans hS, own h1, own h2, hb⟩
theorem decode_width_le (s : ByteArray) (pos : Nat) : (Utf8.decode s pos).2 ≤ 4 := by
  simp only [Utf8.decode]
  repeat' split
  all_goals simp [Utf8.runeError]
def RetScan (w : World) (r : List Tk × Int) (e : Ending) (w' : World) : Prop := ∃ (A : Option Addr) (n c : Nat), e = .returned (.tuple #[.slice A n c, .int .i64 r.2]) ∧ w'.ownsRow w.heap.size 20 1 (.slice A n c) n (r.1.map Tk.v) ∧ Below w.heap.size w w'
theorem own_low {w : World} {base base' : Nat} {e : TypeId} {size n : Nat} {v : Value} {xs : List Value} (h : w.ownsRow base e size v n xs) (hb : base' ≤ base) : w.ownsRow base' e size v n xs := by
  refine ⟨h.1, ?_⟩
  rcases h.2 with h2 | ⟨g, cap, cur, hv, hg, r⟩
  · exact .inl h2
  · exact .inr ⟨g, cap, cur, hv, Nat.le_trans hb hg, r⟩
set_option maxHeartbeats 8000000 in
set_option maxRecDepth 100000 in
theorem lexScan (s : ByteArray) (w : World) (ht : DigTab w) (hT : UT w) (hs : s.size ≤ 100000) :
    Calls Tryd.prog 74 #[.string s] w (RetScan w (scanT s)) := by
  by_cases hl : 200 < s.size
  · have t1 : decide ((200 : Int) < (s.size : Int)) = true := decide_eq_true (by omega)
    have HG := Lib.hid (show scanT s = ([], 4) from if_pos hl)
    go_enter Tryd.func74, Tryd.ntmps74
    go_wp2_with fail
    go_ret2
    exact ⟨none, 0, 0, by rw [HG.out] <;> rfl, by rw [HG.out]; exact World.ownsRow_nil _ _ _ _, Below.refl _ _⟩
  have t1 : decide ((200 : Int) < (s.size : Int)) = false := decide_eq_false (by omega)
  obtain ⟨rb, hrb⟩ : ∃ rb, rightS s = rb := ⟨_, rfl⟩
  have HRB := Lib.hid hrb
  have HR := lexRight s w hT hs
  rw [hrb] at HR
  clear hrb
  cases rb
  · have HG := Lib.hid (show scanT s = ([], 5) by unfold scanT; rw [if_neg hl, if_pos HRB.out])
    go_enter Tryd.func74, Tryd.ntmps74
    go_wp2_with fail
    refine HR.mono ?_
    rintro _ w1 ⟨rfl, b1⟩
    go_wp2_with fail
    go_ret2
    exact ⟨none, 0, 0, by rw [HG.out] <;> rfl, by rw [HG.out]; exact World.ownsRow_nil _ _ _ _, b1⟩
  have HG := Lib.hid (show scanT s = if (endSc s).bad = true ∨ (endSc s).within = true then ([], 5) else ((endSc s).out ++ (if 0 ≤ (endSc s).frm then [wordOf (s.extract (endSc s).frm.toNat s.size)] else []), 0) by unfold scanT; rw [if_neg hl, if_neg (by rw [HRB.out]; simp)])
  have hl200 : s.size ≤ 200 := by omega
  clear hl HRB
  go_enter Tryd.func74, Tryd.ntmps74
  go_wp2_with fail
  refine HR.mono ?_
  rintro _ w1 ⟨rfl, b1⟩
  obtain ⟨w2, hw2, hS2, b2⟩ := box1c w1 #[.slice none 0 0, .int .i64 (-1), .slice none 0 0, .bool false, .bool false, .bool false, .bool false] 113
  go_upto_region 6 with fail
  try rw [hw2]
  have b02 := btr b1 b2 b1.size
  have SC2 : SC w2 w1.heap.size w1.heap.size initSc := ⟨none, 0, 0, none, 0, 0, hS2, World.ownsRow_nil _ _ _ _, World.ownsRow_nil _ _ _ _, Nat.le_refl _⟩
  have z2 : w2.heap.size = w1.heap.size + 1 := by rw [← hw2]; simp
  clear hw2 hS2
  have SC3 : SC (w2.iter s 0) w1.heap.size w1.heap.size initSc := SC2.keep fun b cs t f hb => ((Below.refl w2.heap.size w2).alloc (Nat.le_refl _) _).block b (Array.getElem?_eq_some_iff.1 hb).1
  have b03 := b02.alloc b02.size (.stringIter s 0)
  have z1 := b1.size
  obtain ⟨kk, hkk⟩ : ∃ kk, w2.heap.size = kk := ⟨_, rfl⟩
  have hkw : w.heap.size ≤ kk := by omega
  clear z2
  go_wp2_with fail
  try rw [hkk]
  have Hkk := Lib.hid hkk
  clear hkk
  go_loopw [5] (fun _ w' => ∃ (f pos : Nat) (st : Sc), s.size ≤ pos + f ∧ pos ≤ s.size + 4 ∧ w'.heap[kk]? = some (.stringIter s pos) ∧ SC w' w1.heap.size w1.heap.size st ∧ Below w.heap.size w w' ∧ Fit s pos st ∧ Hid (endSc s = runSc s f pos st)) (fun _ w' => s.size - w'.iterPos kk)
  case atStart => exact ⟨s.size, 0, initSc, by omega, by omega, by rw [← Hkk.out]; exact World.iter_heap _ _ _, SC3, b03, ⟨by simp [initSc], by simp [initSc] <;> omega, by simp [initSc], by simp [initSc]⟩, Lib.hid rfl⟩
  case round =>
    obtain ⟨f, pos, st, hf, hp4, hk, hSC, hb, hfit, HE⟩ := hrel
    by_cases hlt : pos < s.size
    · obtain ⟨f, rfl⟩ : ∃ f', f = f' + 1 := ⟨f - 1, by omega⟩
      have hnx := fun ty => Lib.run_next_any_at (P := Tryd.prog) wr kk s pos ty hk hlt
      have hwd := Lib.decode_width_pos s pos hlt
      have hw4 := decode_width_le s pos
      have hE := HE.out
      rw [runSc, if_pos hlt] at hE
      unfold stepSc at hE
      obtain ⟨c, k, hd⟩ : ∃ c k, Utf8.decode s pos = (c, k) := ⟨_, _, rfl⟩
      rw [hd] at hnx hwd hE hw4
      simp only at hnx hwd hE hw4
      have HEE := Lib.hid hE
      have HP := Lib.hid (show wr.iterPos kk = pos by unfold World.iterPos; rw [hk])
      have hk1 := Lib.iterAt_heap wr kk s pos (pos + k) hk
      have hb1 := Lib.below_iterAt hb (k := kk) hkw s (pos + k)
      have hSC1 : SC (wr.iterAt kk s (pos + k)) w1.heap.size w1.heap.size st := hSC.keep fun b cs t f hb => Lib.iterAt_other wr kk b s (pos + k) (by rintro rfl; rw [hk] at hb; cases hb)
      obtain ⟨w3, hw3⟩ : ∃ W, wr.iterAt kk s (pos + k) = W := ⟨_, rfl⟩
      rw [hw3] at hk1 hb1 hSC1
      simp only [hw3] at hnx
      clear hE hd hw3 hk hSC
      have hfit1 := hfit
      obtain ⟨hf1, hf2, hf3, hf4⟩ := hfit1
      have hwi : ∃ wi, st.within = wi := ⟨_, rfl⟩
      obtain ⟨wi, hwi⟩ := hwi
      have c3 : w3.cell? ⟨w1.heap.size, 3, none⟩ = some (.bool wi) := by
        obtain ⟨_, _, _, _, _, _, hS, _⟩ := hSC1
        rw [← hwi]; exact hS.cell 3
      have HFit := Lib.hid hfit
      have HWi := Lib.hid hwi
      clear hfit hwi
      cases wi
      · have HN := Lib.hid (show endSc s = runSc s f (pos + k) (outSt st s pos (c : Int)) by rw [HEE.out, if_neg (by rw [HWi.out]; simp)])
        go_wp2_with fail
        refine (lexOutside s pos (c : Int) w3 w1.heap.size w1.heap.size st hSC1 (ht.call hb1) (by omega) (by omega) hf1 (by omega)).mono ?_
        rintro _ w4 ⟨rfl, hSC4, b4, I4⟩
        have hk4 := I4 _ _ _ hk1
        have hb4 := hb1.trans (b4.mono z1)
        go_wp2_with fail
        go_roundw
        case rel => exact ⟨f, pos + k, _, by omega, by omega, hk4, hSC4, hb4, outSt_fit HFit.out hwd hlt, HN⟩
        case measure =>
          rw [HP.out, show w4.iterPos kk = pos + k by unfold World.iterPos; rw [hk4]]
          omega
      · have HN := Lib.hid (show endSc s = runSc s f (pos + k) (inSt st (c : Int)) by rw [HEE.out, if_pos HWi.out])
        go_wp2_with fail
        refine (lexInside (c : Int) w3 w1.heap.size w1.heap.size st hSC1 (by omega) (by omega)).mono ?_
        rintro _ w4 ⟨rfl, hSC4, b4, I4⟩
        have hk4 := I4 _ _ _ hk1
        have hb4 := hb1.trans (b4.mono z1)
        go_wp2_with fail
        go_roundw
        case rel => exact ⟨f, pos + k, _, by omega, by omega, hk4, hSC4, hb4, inSt_fit HFit.out hwd, HN⟩
        case measure =>
          rw [HP.out, show w4.iterPos kk = pos + k by unfold World.iterPos; rw [hk4]]
          omega
    · have hnx := fun ty => Lib.run_next_end_at (P := Tryd.prog) wr kk s pos ty hk hlt
      have hE : endSc s = st := by rw [HE.out]; exact runSc_end s f pos st hlt
      have hGo := HG.out
      rw [hE] at hGo
      have HGO := Lib.hid hGo
      clear hGo hE
      obtain ⟨hf1, hf2, hf3, hf4⟩ := hfit
      have htr := ht.call hb
      obtain ⟨out, frm, q, within, escape, ended, bad⟩ := st
      obtain ⟨A1, n1, c1, A2, n2, c2, hS, h1, h2, hbg⟩ := hSC
      simp only at hS h1 h2 hf1 hf2 hf3 HGO
      have hn1 : n1 ≤ 100000 := by have := h1.1; simp at this; omega
      have cc6 := hS.cell 6
      have cc3 := hS.cell 3
      have cc1 := hS.cell 1
      have cc0 := hS.cell 0
      cases bad
      case true =>
        have HZ := Lib.hid (show scanT s = ([], 5) by rw [HGO.out]; simp)
        go_wp2_with fail
        go_ret2
        exact ⟨none, 0, 0, by rw [HZ.out] <;> rfl, by rw [HZ.out]; exact World.ownsRow_nil _ _ _ _, hb⟩
      cases within
      case true =>
        have HZ := Lib.hid (show scanT s = ([], 5) by rw [HGO.out]; simp)
        go_wp2_with fail
        go_ret2
        exact ⟨none, 0, 0, by rw [HZ.out] <;> rfl, by rw [HZ.out]; exact World.ownsRow_nil _ _ _ _, hb⟩
      by_cases e2 : 0 ≤ frm
      case neg =>
        have t2 : decide ((0 : Int) ≤ frm) = false := decide_eq_false e2
        have HZ := Lib.hid (show scanT s = (out, 0) by rw [HGO.out]; simp [e2])
        go_wp2_with fail
        go_ret2
        exact ⟨A1, n1, c1, by rw [HZ.out] <;> rfl, by rw [HZ.out]; exact own_low h1 z1, hb⟩
      have t2 : decide ((0 : Int) ≤ frm) = true := decide_eq_true e2
      obtain ⟨F, rfl⟩ := Int.eq_ofNat_of_zero_le e2
      have HZ := Lib.hid (show scanT s = (out ++ [wordOf (s.extract F s.size)], 0) by rw [HGO.out]; simp)
      obtain ⟨T, x, hV⟩ := wordOf_iface (s.extract F s.size)
      have hV1 : (Value.iface T x).oneCell' = true := rfl
      have HV := Lib.hid hV
      have HWd := fun W (hT : DigTab W) => lexWord (s.extract F s.size) W hT (by rw [ByteArray.size_extract]; omega)
      rw [hV] at HWd
      have HW := Lib.hid HWd
      clear HWd hV HE HG HGO
      have s0 : (0 : Int) ≤ (F : Int) := by omega
      have s2 : (F : Int) ≤ (s.size : Int) := by omega
      have hSd := hS.drew
      have h1d : wr.drew.ownsRow w1.heap.size 20 1 (.slice A1 n1 c1) n1 (out.map Tk.v) := h1
      have htd : DigTab wr.drew := htr
      have hbgr : w1.heap.size < wr.heap.size := hS.lt
      go_upto_region 15 with fail
      rename_i hk
      have HK := Lib.hid hk
      clear hk
      refine wp_region_held_drew (S := (fun w' => w'.cell? ⟨w1.heap.size, 1, none⟩ = some (.int .i64 (F : Int)))) (by kernel_rfl) ?_ (fun hHeld => ?_)
      · (first | exact hSd.cell 1 | exact hS2.cell 1 | exact hSa.cell 1 | exact hS3.cell 1 | exact hS4.cell 1)
      refine wpAnyH_take (i := 0) (v := ?q1v0) rfl (by kernel_rfl) (by kernel_rfl) (by kernel_rfl) (by intro _ _ _ h; exact h) (Or.inl ⟨by rfl, ?q1hy0⟩) (by assumption) ?q1rest0
      case q1hy0 => (intro w hSw; (try dsimp only at hSw); go_simp; try with_reducible rfl)
      try simp only [Act.put, List.getElem_toArray, List.getElem_cons_succ, List.getElem_cons_zero, List.setIfInBounds_toArray, List.set_cons_zero, List.set_cons_succ]
      refine wpAnyH_take (i := 1) (v := ?q1v1) rfl (by kernel_rfl) (by kernel_rfl) (by kernel_rfl) (by intro _ _ _ h; exact h) (Or.inl ⟨by rfl, ?q1hy1⟩) (by assumption) ?q1rest1
      case q1hy1 => (intro w hSw; (try dsimp only at hSw); go_simp; try with_reducible rfl)
      try simp only [Act.put, List.getElem_toArray, List.getElem_cons_succ, List.getElem_cons_zero, List.setIfInBounds_toArray, List.set_cons_zero, List.set_cons_succ]
      refine wpAnyH_take (i := 2) (v := ?q1v2) rfl (by kernel_rfl) (by kernel_rfl) (by kernel_rfl) (by intro _ _ _ h; exact h) (Or.inl ⟨by rfl, ?q1hy2⟩) (by assumption) ?q1rest2
      case q1hy2 => (intro w hSw; (try dsimp only at hSw); go_simp; try with_reducible rfl)
      try simp only [Act.put, List.getElem_toArray, List.getElem_cons_succ, List.getElem_cons_zero, List.setIfInBounds_toArray, List.set_cons_zero, List.set_cons_succ]
      refine wpAnyH_take (i := 3) (v := ?q1v3) rfl (by kernel_rfl) (by kernel_rfl) (by kernel_rfl) (by intro _ _ _ h; exact h) (Or.inl ⟨by rfl, ?q1hy3⟩) (by assumption) ?q1rest3
      case q1hy3 => (intro w hSw; (try dsimp only at hSw); go_simp; try with_reducible rfl)
      try simp only [Act.put, List.getElem_toArray, List.getElem_cons_succ, List.getElem_cons_zero, List.setIfInBounds_toArray, List.set_cons_zero, List.set_cons_succ]
      refine wpAnyH_take (i := 5) (v := ?q1v5) rfl (by kernel_rfl) (by kernel_rfl) (by kernel_rfl) (by intro _ _ _ h; exact h) (Or.inl ⟨by rfl, ?q1hy5⟩) (by assumption) ?q1rest5
      case q1hy5 => (intro w hSw; (try dsimp only at hSw); go_simp; try with_reducible rfl)
      try simp only [Act.put, List.getElem_toArray, List.getElem_cons_succ, List.getElem_cons_zero, List.setIfInBounds_toArray, List.set_cons_zero, List.set_cons_succ]
      refine wpAnyH_take (i := 6) (v := ?q1v6) rfl (by kernel_rfl) (by kernel_rfl) (by kernel_rfl) (by intro _ _ _ h; exact h) (Or.inl ⟨by rfl, ?q1hy6⟩) (by assumption) ?q1rest6
      case q1hy6 => (intro w hSw; (try dsimp only at hSw); go_simp; try with_reducible rfl)
      try simp only [Act.put, List.getElem_toArray, List.getElem_cons_succ, List.getElem_cons_zero, List.setIfInBounds_toArray, List.set_cons_zero, List.set_cons_succ]
      refine wpAnyH_take (i := 7) (v := ?q1v7) rfl (by kernel_rfl) (by kernel_rfl) (by kernel_rfl) (by intro _ _ _ h; exact h) (Or.inl ⟨by rfl, ?q1hy7⟩) (by assumption) ?q1rest7
      case q1hy7 => (intro w hSw; (try dsimp only at hSw); go_simp; try with_reducible rfl)
      try simp only [Act.put, List.getElem_toArray, List.getElem_cons_succ, List.getElem_cons_zero, List.setIfInBounds_toArray, List.set_cons_zero, List.set_cons_succ]
      refine wpAnyH_take (i := 8) (v := ?q1v8) rfl (by kernel_rfl) (by kernel_rfl) (by kernel_rfl) (by intro _ _ _ h; exact h) (Or.inl ⟨by rfl, ?q1hy8⟩) (by assumption) ?q1rest8
      case q1hy8 => (intro w hSw; (try dsimp only at hSw); go_simp; try with_reducible rfl)
      try simp only [Act.put, List.getElem_toArray, List.getElem_cons_succ, List.getElem_cons_zero, List.setIfInBounds_toArray, List.set_cons_zero, List.set_cons_succ]
      refine wpAnyH_take (i := 9) (v := ?q1v9) rfl (by kernel_rfl) (by kernel_rfl) (by kernel_rfl) (by intro _ _ _ h; exact h) (Or.inl ⟨by rfl, ?q1hy9⟩) (by assumption) ?q1rest9
      case q1hy9 => (intro w hSw; (try dsimp only at hSw); go_simp; try with_reducible rfl)
      try simp only [Act.put, List.getElem_toArray, List.getElem_cons_succ, List.getElem_cons_zero, List.setIfInBounds_toArray, List.set_cons_zero, List.set_cons_succ]
      refine wpAnyH_take (i := 10) (v := ?q1v10) rfl (by kernel_rfl) (by kernel_rfl) (by kernel_rfl) (by intro _ _ _ h; exact h) (Or.inl ⟨by rfl, ?q1hy10⟩) (by assumption) ?q1rest10
      case q1hy10 => (intro w hSw; (try dsimp only at hSw); go_simp; try with_reducible rfl)
      try simp only [Act.put, List.getElem_toArray, List.getElem_cons_succ, List.getElem_cons_zero, List.setIfInBounds_toArray, List.set_cons_zero, List.set_cons_succ]
      obtain ⟨ii, hii, hiz, his, hib⟩ : ∃ i, Tryd.prog.info? 20 = some i ∧ i.zero = some .nilIface ∧ i.size = 1 ∧ i.bytes = 16 := by
        have := any_info
        simp only [Option.map_eq_some_iff, Prod.mk.injEq] at this
        exact this
      refine wpAnyH_ready (rs := [4, 11]) (by kernel_rfl) (by simp) ?_
      refine AllReadyH.cons rfl (fun K hK => ?_) (AllReadyH.cons rfl (fun K hK => ?_) AllReadyH.nil)
      · skip
        go_simp
        go_wp2_with (fail)
        refine hK.out _ _ ?_ (fun hHeld => ?_)
        · try dsimp only
          (first | exact hSd.cell 1 | exact hS2.cell 1 | exact hSa.cell 1 | exact hS3.cell 1 | exact hS4.cell 1)
        clear hK K
        refine wpAnyH_ready (rs := [11]) (by kernel_rfl) (by simp) ?_
        refine AllReadyH.cons rfl (fun K hK => ?_) AllReadyH.nil
        go_simp
        go_wp2_with (go_at_call 106; refine (HW.out _ htd).mono ?_; rintro _ w2 ⟨rfl, bq⟩; have hS2 := hSd.below bq hSd.lt; have h12 := own_below h1d bq; have hSa := hS2.alloc (.cells #[.iface T x] 20); have h1a := own_alloc h12 (.cells #[.iface T x] 20); have kk0 := hS2.cell 0; have ka0 := hSa.cell 0; have zq : wr.heap.size ≤ w2.heap.size := bq.size)
        refine hK.out _ _ ?_ (fun hHeld => ?_)
        · try dsimp only
          (first | exact hSd.cell 1 | exact hS2.cell 1 | exact hSa.cell 1 | exact hS3.cell 1 | exact hS4.cell 1)
        clear hK K
        refine wpAnyH_ready (rs := [12]) (by kernel_rfl) (by simp) ?_
        refine AllReadyH.cons rfl (fun K hK => ?_) AllReadyH.nil
        go_simp
        go_wp2_with (fail)
        refine hK.out _ _ ?_ (fun hHeld => ?_)
        · try dsimp only
          (first | exact hSd.cell 1 | exact hS2.cell 1 | exact hSa.cell 1 | exact hS3.cell 1 | exact hS4.cell 1)
        clear hK K
        refine wpAnyH_ready (rs := [13]) (by kernel_rfl) (by simp) ?_
        refine AllReadyH.cons rfl (fun K hK => ?_) AllReadyH.nil
        refine step_append_any _ rfl (.tmp 52) (.tmp 60) 80 rfl w1.heap.size 20 ii .nilIface 1 16 Tryd.underlying80 hii hiz his hib rfl (by omega) (.slice A1 n1 c1) n1 _ (by rfl) h1a (w2.heap.size + 1) (some ⟨w2.heap.size, 0, none⟩) 1 1 [.iface T x] (by rfl) (one_reads (Blk.new w2 20 #[.iface T x])) (by intro u hu; simp at hu; subst hu; exact hV1) (by unfold maxLen; omega) (by omega) (by simp; omega) ?_; intro v3 w3 o3 g3 hat; obtain ⟨A3, c3, rfl⟩ := own_form o3; have hS3 := hSa.grown g3 (by intro e; first | exact own_blk_ne h1a hSa (by decide) e | exact own_blk_ne h1a hSa (by decide) e.symm); have f0 := hS3.frozen 0; have k0 := hS3.cell 0; have hS4 := hS3.set_ 0 (.slice A3 (n1 + 1) c3); have hg4 := only_setCell (World.grownBy.refl w3 (some w1.heap.size)) (p := ⟨w1.heap.size, 0, none⟩) (.inl rfl) (.slice A3 (n1 + 1) c3)
        refine hK.out _ _ ?_ (fun hHeld => ?_)
        · try dsimp only
          (first | exact hSd.cell 1 | exact hS2.cell 1 | exact hSa.cell 1 | exact hS3.cell 1 | exact hS4.cell 1)
        clear hK K
        refine wpAnyH_take (i := 14) (v := ?qav14) rfl (by kernel_rfl) (by kernel_rfl) (by kernel_rfl) (by intro _ _ _ h; exact h) (Or.inl ⟨by rfl, ?qahy14⟩) (by assumption) ?qarest14
        case qahy14 => (intro w hSw; (try dsimp only at hSw); go_simp; try with_reducible rfl)
        try simp only [Act.put, List.getElem_toArray, List.getElem_cons_succ, List.getElem_cons_zero, List.setIfInBounds_toArray, List.set_cons_zero, List.set_cons_succ]
        refine wpAnyH_take (i := 15) (v := ?qav15) rfl (by kernel_rfl) (by kernel_rfl) (by kernel_rfl) (by intro _ _ _ h; exact h) (Or.inl ⟨by rfl, ?qahy15⟩) (by assumption) ?qarest15
        case qahy15 => (intro w hSw; (try dsimp only at hSw); go_simp; try with_reducible rfl)
        try simp only [Act.put, List.getElem_toArray, List.getElem_cons_succ, List.getElem_cons_zero, List.setIfInBounds_toArray, List.set_cons_zero, List.set_cons_succ]
        refine wpAnyH_ready (rs := [16]) (by kernel_rfl) (by simp) ?_
        refine AllReadyH.cons rfl (fun K hK => ?_) AllReadyH.nil
        go_simp
        go_wp2_with (fail)
        refine hK.out _ _ ?_ (fun hHeld => ?_)
        · try dsimp only
          (first | exact hSd.cell 1 | exact hS2.cell 1 | exact hSa.cell 1 | exact hS3.cell 1 | exact hS4.cell 1)
        clear hK K
        refine wpAnyH_done (by kernel_rfl) ?_ _
        refine HK.out _ _ ?_
        clear HK
        simp only [List.setIfInBounds_toArray, List.set_cons_succ, List.set_cons_zero] at hS4
        have ba := (hb.drew.trans (bq.mono (show w.heap.size ≤ wr.drew.heap.size by show w.heap.size ≤ wr.heap.size; omega))).alloc (show w.heap.size ≤ w2.heap.size by omega) (.cells #[.iface T x] 20)
        have b3 : Below w.heap.size (w2.alloc (.cells #[.iface T x] 20)) w3 := ⟨g3.os, g3.tape, g3.output, g3.size, fun b hb => g3.block b (by show b < (w2.alloc _).heap.size; simp; omega) (fun e => by have := (h1a.lt b e.symm).1; omega)⟩
        have o4 := own_at o3 hS3 (by decide) hg4
        have b4 := (ba.trans b3).setCell (p := ⟨w1.heap.size, 0, none⟩) z1 (.slice A3 (n1 + 1) c3)
        obtain ⟨w4, hw4⟩ : ∃ W, w3.setCell ⟨w1.heap.size, 0, none⟩ (.slice A3 (n1 + 1) c3) = W := ⟨_, rfl⟩
        rw [hw4] at hS4 o4 b4
        rw [hw4]
        clear hw4 cc0 cc1 cc3 cc6 kk0 ka0 f0 k0
        have m0 := hS4.cell 0
        go_wp2_with fail
        go_ret2
        exact ⟨A3, n1 + 1, c3, by rw [HZ.out] <;> rfl, by rw [HZ.out, List.map_append, List.map_singleton, HV.out]; exact own_low o4 z1, b4⟩
      · skip
        go_simp
        go_wp2_with (go_at_call 106; refine (HW.out _ htd).mono ?_; rintro _ w2 ⟨rfl, bq⟩; have hS2 := hSd.below bq hSd.lt; have h12 := own_below h1d bq; have hSa := hS2.alloc (.cells #[.iface T x] 20); have h1a := own_alloc h12 (.cells #[.iface T x] 20); have kk0 := hS2.cell 0; have ka0 := hSa.cell 0; have zq : wr.heap.size ≤ w2.heap.size := bq.size)
        refine hK.out _ _ ?_ (fun hHeld => ?_)
        · try dsimp only
          (first | exact hSd.cell 1 | exact hS2.cell 1 | exact hSa.cell 1 | exact hS3.cell 1 | exact hS4.cell 1)
        clear hK K
        refine wpAnyH_ready (rs := [4, 12]) (by kernel_rfl) (by simp) ?_
        refine AllReadyH.cons rfl (fun K hK => ?_) (AllReadyH.cons rfl (fun K hK => ?_) AllReadyH.nil)
        · skip
          go_simp
          go_wp2_with (fail)
          refine hK.out _ _ ?_ (fun hHeld => ?_)
          · try dsimp only
            (first | exact hSd.cell 1 | exact hS2.cell 1 | exact hSa.cell 1 | exact hS3.cell 1 | exact hS4.cell 1)
          clear hK K
          refine wpAnyH_ready (rs := [12]) (by kernel_rfl) (by simp) ?_
          refine AllReadyH.cons rfl (fun K hK => ?_) AllReadyH.nil
          go_simp
          go_wp2_with (fail)
          refine hK.out _ _ ?_ (fun hHeld => ?_)
          · try dsimp only
            (first | exact hSd.cell 1 | exact hS2.cell 1 | exact hSa.cell 1 | exact hS3.cell 1 | exact hS4.cell 1)
          clear hK K
          refine wpAnyH_ready (rs := [13]) (by kernel_rfl) (by simp) ?_
          refine AllReadyH.cons rfl (fun K hK => ?_) AllReadyH.nil
          refine step_append_any _ rfl (.tmp 52) (.tmp 60) 80 rfl w1.heap.size 20 ii .nilIface 1 16 Tryd.underlying80 hii hiz his hib rfl (by omega) (.slice A1 n1 c1) n1 _ (by rfl) h1a (w2.heap.size + 1) (some ⟨w2.heap.size, 0, none⟩) 1 1 [.iface T x] (by rfl) (one_reads (Blk.new w2 20 #[.iface T x])) (by intro u hu; simp at hu; subst hu; exact hV1) (by unfold maxLen; omega) (by omega) (by simp; omega) ?_; intro v3 w3 o3 g3 hat; obtain ⟨A3, c3, rfl⟩ := own_form o3; have hS3 := hSa.grown g3 (by intro e; first | exact own_blk_ne h1a hSa (by decide) e | exact own_blk_ne h1a hSa (by decide) e.symm); have f0 := hS3.frozen 0; have k0 := hS3.cell 0; have hS4 := hS3.set_ 0 (.slice A3 (n1 + 1) c3); have hg4 := only_setCell (World.grownBy.refl w3 (some w1.heap.size)) (p := ⟨w1.heap.size, 0, none⟩) (.inl rfl) (.slice A3 (n1 + 1) c3)
          refine hK.out _ _ ?_ (fun hHeld => ?_)
          · try dsimp only
            (first | exact hSd.cell 1 | exact hS2.cell 1 | exact hSa.cell 1 | exact hS3.cell 1 | exact hS4.cell 1)
          clear hK K
          refine wpAnyH_take (i := 14) (v := ?qbv14) rfl (by kernel_rfl) (by kernel_rfl) (by kernel_rfl) (by intro _ _ _ h; exact h) (Or.inl ⟨by rfl, ?qbhy14⟩) (by assumption) ?qbrest14
          case qbhy14 => (intro w hSw; (try dsimp only at hSw); go_simp; try with_reducible rfl)
          try simp only [Act.put, List.getElem_toArray, List.getElem_cons_succ, List.getElem_cons_zero, List.setIfInBounds_toArray, List.set_cons_zero, List.set_cons_succ]
          refine wpAnyH_take (i := 15) (v := ?qbv15) rfl (by kernel_rfl) (by kernel_rfl) (by kernel_rfl) (by intro _ _ _ h; exact h) (Or.inl ⟨by rfl, ?qbhy15⟩) (by assumption) ?qbrest15
          case qbhy15 => (intro w hSw; (try dsimp only at hSw); go_simp; try with_reducible rfl)
          try simp only [Act.put, List.getElem_toArray, List.getElem_cons_succ, List.getElem_cons_zero, List.setIfInBounds_toArray, List.set_cons_zero, List.set_cons_succ]
          refine wpAnyH_ready (rs := [16]) (by kernel_rfl) (by simp) ?_
          refine AllReadyH.cons rfl (fun K hK => ?_) AllReadyH.nil
          go_simp
          go_wp2_with (fail)
          refine hK.out _ _ ?_ (fun hHeld => ?_)
          · try dsimp only
            (first | exact hSd.cell 1 | exact hS2.cell 1 | exact hSa.cell 1 | exact hS3.cell 1 | exact hS4.cell 1)
          clear hK K
          refine wpAnyH_done (by kernel_rfl) ?_ _
          refine HK.out _ _ ?_
          clear HK
          simp only [List.setIfInBounds_toArray, List.set_cons_succ, List.set_cons_zero] at hS4
          have ba := (hb.drew.trans (bq.mono (show w.heap.size ≤ wr.drew.heap.size by show w.heap.size ≤ wr.heap.size; omega))).alloc (show w.heap.size ≤ w2.heap.size by omega) (.cells #[.iface T x] 20)
          have b3 : Below w.heap.size (w2.alloc (.cells #[.iface T x] 20)) w3 := ⟨g3.os, g3.tape, g3.output, g3.size, fun b hb => g3.block b (by show b < (w2.alloc _).heap.size; simp; omega) (fun e => by have := (h1a.lt b e.symm).1; omega)⟩
          have o4 := own_at o3 hS3 (by decide) hg4
          have b4 := (ba.trans b3).setCell (p := ⟨w1.heap.size, 0, none⟩) z1 (.slice A3 (n1 + 1) c3)
          obtain ⟨w4, hw4⟩ : ∃ W, w3.setCell ⟨w1.heap.size, 0, none⟩ (.slice A3 (n1 + 1) c3) = W := ⟨_, rfl⟩
          rw [hw4] at hS4 o4 b4
          rw [hw4]
          clear hw4 cc0 cc1 cc3 cc6 kk0 ka0 f0 k0
          have m0 := hS4.cell 0
          go_wp2_with fail
          go_ret2
          exact ⟨A3, n1 + 1, c3, by rw [HZ.out] <;> rfl, by rw [HZ.out, List.map_append, List.map_singleton, HV.out]; exact own_low o4 z1, b4⟩
        · skip
          go_simp
          go_wp2_with (fail)
          refine hK.out _ _ ?_ (fun hHeld => ?_)
          · try dsimp only
            (first | exact hSd.cell 1 | exact hS2.cell 1 | exact hSa.cell 1 | exact hS3.cell 1 | exact hS4.cell 1)
          clear hK K
          refine wpAnyH_ready (rs := [4]) (by kernel_rfl) (by simp) ?_
          refine AllReadyH.cons rfl (fun K hK => ?_) AllReadyH.nil
          go_simp
          go_wp2_with (fail)
          refine hK.out _ _ ?_ (fun hHeld => ?_)
          · try dsimp only
            (first | exact hSd.cell 1 | exact hS2.cell 1 | exact hSa.cell 1 | exact hS3.cell 1 | exact hS4.cell 1)
          clear hK K
          refine wpAnyH_ready (rs := [13]) (by kernel_rfl) (by simp) ?_
          refine AllReadyH.cons rfl (fun K hK => ?_) AllReadyH.nil
          refine step_append_any _ rfl (.tmp 52) (.tmp 60) 80 rfl w1.heap.size 20 ii .nilIface 1 16 Tryd.underlying80 hii hiz his hib rfl (by omega) (.slice A1 n1 c1) n1 _ (by rfl) h1a (w2.heap.size + 1) (some ⟨w2.heap.size, 0, none⟩) 1 1 [.iface T x] (by rfl) (one_reads (Blk.new w2 20 #[.iface T x])) (by intro u hu; simp at hu; subst hu; exact hV1) (by unfold maxLen; omega) (by omega) (by simp; omega) ?_; intro v3 w3 o3 g3 hat; obtain ⟨A3, c3, rfl⟩ := own_form o3; have hS3 := hSa.grown g3 (by intro e; first | exact own_blk_ne h1a hSa (by decide) e | exact own_blk_ne h1a hSa (by decide) e.symm); have f0 := hS3.frozen 0; have k0 := hS3.cell 0; have hS4 := hS3.set_ 0 (.slice A3 (n1 + 1) c3); have hg4 := only_setCell (World.grownBy.refl w3 (some w1.heap.size)) (p := ⟨w1.heap.size, 0, none⟩) (.inl rfl) (.slice A3 (n1 + 1) c3)
          refine hK.out _ _ ?_ (fun hHeld => ?_)
          · try dsimp only
            (first | exact hSd.cell 1 | exact hS2.cell 1 | exact hSa.cell 1 | exact hS3.cell 1 | exact hS4.cell 1)
          clear hK K
          refine wpAnyH_take (i := 14) (v := ?qcv14) rfl (by kernel_rfl) (by kernel_rfl) (by kernel_rfl) (by intro _ _ _ h; exact h) (Or.inl ⟨by rfl, ?qchy14⟩) (by assumption) ?qcrest14
          case qchy14 => (intro w hSw; (try dsimp only at hSw); go_simp; try with_reducible rfl)
          try simp only [Act.put, List.getElem_toArray, List.getElem_cons_succ, List.getElem_cons_zero, List.setIfInBounds_toArray, List.set_cons_zero, List.set_cons_succ]
          refine wpAnyH_take (i := 15) (v := ?qcv15) rfl (by kernel_rfl) (by kernel_rfl) (by kernel_rfl) (by intro _ _ _ h; exact h) (Or.inl ⟨by rfl, ?qchy15⟩) (by assumption) ?qcrest15
          case qchy15 => (intro w hSw; (try dsimp only at hSw); go_simp; try with_reducible rfl)
          try simp only [Act.put, List.getElem_toArray, List.getElem_cons_succ, List.getElem_cons_zero, List.setIfInBounds_toArray, List.set_cons_zero, List.set_cons_succ]
          refine wpAnyH_ready (rs := [16]) (by kernel_rfl) (by simp) ?_
          refine AllReadyH.cons rfl (fun K hK => ?_) AllReadyH.nil
          go_simp
          go_wp2_with (fail)
          refine hK.out _ _ ?_ (fun hHeld => ?_)
          · try dsimp only
            (first | exact hSd.cell 1 | exact hS2.cell 1 | exact hSa.cell 1 | exact hS3.cell 1 | exact hS4.cell 1)
          clear hK K
          refine wpAnyH_done (by kernel_rfl) ?_ _
          refine HK.out _ _ ?_
          clear HK
          simp only [List.setIfInBounds_toArray, List.set_cons_succ, List.set_cons_zero] at hS4
          have ba := (hb.drew.trans (bq.mono (show w.heap.size ≤ wr.drew.heap.size by show w.heap.size ≤ wr.heap.size; omega))).alloc (show w.heap.size ≤ w2.heap.size by omega) (.cells #[.iface T x] 20)
          have b3 : Below w.heap.size (w2.alloc (.cells #[.iface T x] 20)) w3 := ⟨g3.os, g3.tape, g3.output, g3.size, fun b hb => g3.block b (by show b < (w2.alloc _).heap.size; simp; omega) (fun e => by have := (h1a.lt b e.symm).1; omega)⟩
          have o4 := own_at o3 hS3 (by decide) hg4
          have b4 := (ba.trans b3).setCell (p := ⟨w1.heap.size, 0, none⟩) z1 (.slice A3 (n1 + 1) c3)
          obtain ⟨w4, hw4⟩ : ∃ W, w3.setCell ⟨w1.heap.size, 0, none⟩ (.slice A3 (n1 + 1) c3) = W := ⟨_, rfl⟩
          rw [hw4] at hS4 o4 b4
          rw [hw4]
          clear hw4 cc0 cc1 cc3 cc6 kk0 ka0 f0 k0
          have m0 := hS4.cell 0
          go_wp2_with fail
          go_ret2
          exact ⟨A3, n1 + 1, c3, by rw [HZ.out] <;> rfl, by rw [HZ.out, List.map_append, List.map_singleton, HV.out]; exact own_low o4 z1, b4⟩
end Go.Proofs.YtnhkpnohadbcdaaDoor
