/- The plain law of layer 13 (lex): the scanner by bytes, and that it answers as the scanner by runes. No conditions. -/
import Derived.Lib.TrimUEq
import Derived.Test.YtnhkpnohadbcdaaDoorLexW
import Derived.Test.YtnhkpnohadbcdaaDoorLexE
namespace Go.Proofs.YtnhkpnohadbcdaaDoor
open Go.RowKit
set_option linter.unusedVariables false
set_option linter.unusedSimpArgs false
/-- Where a scanner by bytes stands. -/
structure Bc where
  out : List Tk
  frm : Int
  t : List UInt8
  within : Bool
  escape : Bool
  ended : Bool
  bad : Bool
def inB (st : Bc) (b : UInt8) : Bc :=
  if st.escape = true then { st with t := st.t ++ [b], escape := false, bad := st.bad || (b != 34 && b != 92) }
  else if b = 92 then { st with escape := true }
  else if b = 34 then { st with out := st.out ++ [.quo ⟨st.t.toArray⟩], within := false, ended := true, t := [] }
  else { st with t := st.t ++ [b] }
noncomputable def outB (st : Bc) (s : ByteArray) (i : Nat) (b : UInt8) : Bc :=
  if b = 32 then { st with out := if 0 ≤ st.frm then st.out ++ [wordOf (s.extract st.frm.toNat i)] else st.out, frm := -1, ended := false }
  else if st.ended = true ∨ (b = 34 ∧ 0 ≤ st.frm) then { st with bad := true }
  else if b = 34 then { st with within := true }
  else if st.frm < 0 then { st with frm := (i : Int) }
  else st
noncomputable def stepB (s : ByteArray) (i : Nat) (st : Bc) (b : UInt8) : Bc := if st.within = true then inB st b else outB st s i b
noncomputable def runL (s : ByteArray) : List UInt8 → Nat → Bc → Bc
  | [], _, st => st
  | b :: l, i, st => runL s l (i + 1) (stepB s i st b)
theorem runL_app (s : ByteArray) (a b : List UInt8) (i : Nat) (st : Bc) : runL s (a ++ b) i st = runL s b (i + a.length) (runL s a i st) := by
  induction a generalizing i st with
  | nil => rfl
  | cons x a ih =>
    show runL s (a ++ b) (i + 1) _ = _
    rw [ih, List.length_cons, show i + 1 + a.length = i + (a.length + 1) by omega]
    rfl
def abs (st : Sc) : Bc := ⟨st.out, st.frm, st.q.flatMap encL, st.within, st.escape, st.ended, st.bad⟩
theorem runesBytes_eq (q : List Int) : runesBytes q = ⟨(q.flatMap encL).toArray⟩ := by
  have h := runesBytes_list q
  generalize runesBytes q = r at h ⊢
  obtain ⟨⟨l⟩⟩ := r
  rw [← h]
theorem ofNat_eq {c n : Nat} (hc : c < 128) (hn : n < 128) : (UInt8.ofNat c = UInt8.ofNat n) ↔ c = n := by
  constructor
  · intro h
    have h1 : (UInt8.ofNat c).toNat = c % 256 := UInt8.toNat_ofNat'
    have h2 : (UInt8.ofNat n).toNat = n % 256 := UInt8.toNat_ofNat'
    rw [h] at h1
    omega
  · rintro rfl; rfl
theorem abs_small (s : ByteArray) (pos c : Nat) (st : Sc) (hc : c < 128) (hd : (Utf8.decode s pos).1 = c) : abs (stepSc s pos st) = stepB s pos (abs st) (UInt8.ofNat c) := by
  obtain ⟨out, frm, q, within, escape, ended, bad⟩ := st
  have e32 : (UInt8.ofNat c = 32) ↔ c = 32 := ofNat_eq (n := 32) hc (by omega)
  have e34 : (UInt8.ofNat c = 34) ↔ c = 34 := ofNat_eq (n := 34) hc (by omega)
  have e92 : (UInt8.ofNat c = 92) ↔ c = 92 := ofNat_eq (n := 92) hc (by omega)
  have i34 : ((c : Int) = 34) ↔ c = 34 := by omega
  have i92 : ((c : Int) = 92) ↔ c = 92 := by omega
  have i32 : ((c : Int) = 32) ↔ c = 32 := by omega
  have hE := encL_small c hc
  unfold stepSc stepB
  rw [hd]
  unfold abs
  simp only
  cases within
  · simp only [Bool.false_eq_true, if_false]
    unfold outSt outB
    simp only [e32, e34, i32, i34]
    by_cases h1 : c = 32
    · simp only [h1, if_true]
    · simp only [h1, if_false]
      by_cases h2 : ended = true ∨ c = 34 ∧ 0 ≤ frm
      · simp only [h2, if_true]
      · simp only [h2, if_false]
        by_cases h3 : c = 34
        · simp only [h3, if_true]
        · simp only [h3, if_false]
          by_cases h4 : frm < 0
          · simp only [h4, if_true]
          · simp only [h4, if_false]
  · simp only [if_true]
    unfold inSt inB
    simp only [e34, e92, i34, i92]
    cases escape
    · simp only [Bool.false_eq_true, if_false]
      by_cases h1 : c = 92
      · simp only [h1, if_true]
      · simp only [h1, if_false]
        by_cases h2 : c = 34
        · simp only [h2, if_true, runesBytes_eq, List.flatMap_nil]
        · simp only [h2, if_false, List.flatMap_append, List.flatMap_cons, List.flatMap_nil, List.append_nil, hE]
    · simp only [if_true, List.flatMap_append, List.flatMap_cons, List.flatMap_nil, List.append_nil, hE]
      have b34 : ((c : Int) != 34) = (UInt8.ofNat c != 34) := by
        by_cases h : c = 34
        · rw [show (UInt8.ofNat c) = 34 from e34.2 h, i34.2 h]; rfl
        · rw [bne_iff_ne.2 (fun h' => h (i34.1 h')), bne_iff_ne.2 (fun h' => h (e34.1 h'))]
      have b92 : ((c : Int) != 92) = (UInt8.ofNat c != 92) := by
        by_cases h : c = 92
        · rw [show (UInt8.ofNat c) = 92 from e92.2 h, i92.2 h]; rfl
        · rw [bne_iff_ne.2 (fun h' => h (i92.1 h')), bne_iff_ne.2 (fun h' => h (e92.1 h'))]
      rw [b34, b92]
theorem big_ne {b : UInt8} (h : 128 ≤ b.toNat) : b ≠ 32 ∧ b ≠ 34 ∧ b ≠ 92 := by
  refine ⟨?_, ?_, ?_⟩ <;> (rintro rfl; exact absurd h (by decide))
theorem runL_in (s : ByteArray) (bs : List UInt8) (i : Nat) (out : List Tk) (frm : Int) (t : List UInt8) (ended bad : Bool) (h : ∀ b ∈ bs, 128 ≤ b.toNat) : runL s bs i ⟨out, frm, t, true, false, ended, bad⟩ = ⟨out, frm, t ++ bs, true, false, ended, bad⟩ := by
  induction bs generalizing i t with
  | nil => rw [List.append_nil]; rfl
  | cons b bs ih =>
    have hb := big_ne (h b (by simp))
    have e : stepB s i ⟨out, frm, t, true, false, ended, bad⟩ b = ⟨out, frm, t ++ [b], true, false, ended, bad⟩ := by
      unfold stepB inB; simp [hb.2.1, hb.2.2]
    show runL s bs (i + 1) (stepB s i _ b) = _
    rw [e, ih _ _ (fun b hb => h b (by simp [hb])), List.append_assoc]
    rfl
theorem runL_ended (s : ByteArray) (bs : List UInt8) (i : Nat) (out : List Tk) (frm : Int) (t : List UInt8) (escape : Bool) (h : ∀ b ∈ bs, 128 ≤ b.toNat) : runL s bs i ⟨out, frm, t, false, escape, true, true⟩ = ⟨out, frm, t, false, escape, true, true⟩ := by
  induction bs generalizing i with
  | nil => rfl
  | cons b bs ih =>
    have hb := big_ne (h b (by simp))
    have e : stepB s i ⟨out, frm, t, false, escape, true, true⟩ b = ⟨out, frm, t, false, escape, true, true⟩ := by
      unfold stepB outB; simp [hb.1]
    show runL s bs (i + 1) (stepB s i _ b) = _
    rw [e, ih _ (fun b hb => h b (by simp [hb]))]
theorem runL_idle (s : ByteArray) (bs : List UInt8) (i : Nat) (out : List Tk) (frm : Int) (t : List UInt8) (escape bad : Bool) (hf : 0 ≤ frm) (h : ∀ b ∈ bs, 128 ≤ b.toNat) : runL s bs i ⟨out, frm, t, false, escape, false, bad⟩ = ⟨out, frm, t, false, escape, false, bad⟩ := by
  induction bs generalizing i with
  | nil => rfl
  | cons b bs ih =>
    have hb := big_ne (h b (by simp))
    have hf' : ¬ frm < 0 := by omega
    have e : stepB s i ⟨out, frm, t, false, escape, false, bad⟩ b = ⟨out, frm, t, false, escape, false, bad⟩ := by
      unfold stepB outB; simp [hb.1, hb.2.1, hf']
    show runL s bs (i + 1) (stepB s i _ b) = _
    rw [e, ih _ (fun b hb => h b (by simp [hb]))]
set_option maxRecDepth 100000 in
theorem abs_big (s : ByteArray) (pos c : Nat) (st : Sc) (hc : 128 ≤ c) (hd : (Utf8.decode s pos).1 = c) (bs : List UInt8) (hE : encL (c : Int) = bs) (hne : bs ≠ []) (h : ∀ b ∈ bs, 128 ≤ b.toNat) : abs (stepSc s pos st) = runL s bs pos (abs st) := by
  obtain ⟨out, frm, q, within, escape, ended, bad⟩ := st
  have i32 : ¬ (c : Int) = 32 := by omega
  have i34 : ¬ (c : Int) = 34 := by omega
  have i92 : ¬ (c : Int) = 92 := by omega
  have n34 : ((c : Int) != 34) = true := by simp; omega
  have n92 : ((c : Int) != 92) = true := by simp; omega
  obtain ⟨b, l, rfl⟩ := List.exists_cons_of_ne_nil hne
  have hb := big_ne (h b (by simp))
  have hl : ∀ b ∈ l, 128 ≤ b.toNat := fun b hb => h b (by simp [hb])
  have b34 : (b != 34) = true := bne_iff_ne.2 hb.2.1
  have b92 : (b != 92) = true := bne_iff_ne.2 hb.2.2
  unfold stepSc
  rw [hd]
  unfold abs
  show _ = runL s l (pos + 1) (stepB s pos _ b)
  unfold stepB
  simp only
  cases within
  · simp only [Bool.false_eq_true, if_false]
    unfold outSt outB
    simp only [i32, i34, hb.1, hb.2.1, if_false, false_and, or_false]
    cases ended
    · simp only [Bool.false_eq_true, if_false]
      by_cases h4 : frm < 0
      · simp only [h4, if_true]
        rw [runL_idle s l _ _ _ _ _ _ (by omega) hl]
      · simp only [h4, if_false]
        rw [runL_idle s l _ _ _ _ _ _ (by omega) hl]
    · simp only [if_true]
      rw [runL_ended s l _ _ _ _ _ hl]
  · simp only [if_true]
    unfold inSt inB
    simp only [i34, i92, hb.2.1, hb.2.2, if_false]
    cases escape
    · simp only [Bool.false_eq_true, if_false]
      rw [runL_in s l _ _ _ _ _ _ hl]
      simp only [List.flatMap_append, List.flatMap_cons, List.flatMap_nil, List.append_nil, hE, List.append_assoc, List.cons_append, List.nil_append]
    · simp only [if_true]
      rw [runL_in s l _ _ _ _ _ _ hl]
      simp only [List.flatMap_append, List.flatMap_cons, List.flatMap_nil, List.append_nil, hE, List.append_assoc, List.cons_append, List.nil_append, n34, n92, b34, b92]
theorem decodeN_low {m b0 b1 b2 b3 : Nat} (h : (Lib.decodeN m b0 b1 b2 b3).1 < 128) : b0 < 128 := by
  by_cases hb : b0 < 128
  · exact hb
  · exfalso
    unfold Lib.decodeN at h
    rw [if_neg hb] at h
    repeat' split at h
    all_goals (simp only at h; omega)
theorem drop_head (s : ByteArray) (pos : Nat) (h : pos < s.size) : s.data.toList.drop pos = s.get! pos :: s.data.toList.drop (pos + 1) := by
  have h' : pos < s.data.toList.length := h
  rw [List.drop_eq_getElem_cons h']
  have := get_at s pos h
  rw [Nat.add_zero] at this
  rw [this]
  rfl
set_option maxRecDepth 100000 in
theorem run_join (s : ByteArray) : ∀ (f pos : Nat) (st : Sc), s.size ≤ pos + f → rightF s f pos = true → abs (runSc s f pos st) = runL s (s.data.toList.drop pos) pos (abs st)
  | 0, pos, st, hf, _ => by
    have : s.data.toList.drop pos = [] := List.drop_eq_nil_of_le (by show s.size ≤ pos; omega)
    rw [this]; rfl
  | f + 1, pos, st, hf, h => by
    by_cases hlt : pos < s.size
    · have hwd := Lib.decode_width_pos s pos hlt
      have hv := decodeN_valid (s.size - pos) (s.get! pos).toNat (s.get! (pos + 1)).toNat (s.get! (pos + 2)).toNat (s.get! (pos + 3)).toNat
      have hlow := @decodeN_low (s.size - pos) (s.get! pos).toNat (s.get! (pos + 1)).toNat (s.get! (pos + 2)).toNat (s.get! (pos + 3)).toNat
      have hdn := Lib.decode_at s pos
      rw [← hdn] at hv hlow
      rw [rightF, if_pos hlt] at h
      obtain ⟨c, k, hd⟩ : ∃ c k, Utf8.decode s pos = (c, k) := ⟨_, _, rfl⟩
      rw [hd] at h hwd hv hlow hdn
      simp only [Bool.and_eq_true] at h hwd hv hlow
      have ih := run_join s f (pos + k) (stepSc s pos st) (by omega) h.2
      rw [runSc, if_pos hlt, hd]
      simp only
      rw [ih]
      have hE := enc_dec hlt hd h.1
      by_cases hc : c < 128
      · have hb := hlow hc
        have e : (c, k) = ((s.get! pos).toNat, 1) := by
          rw [hdn]
          exact if_pos hb
        obtain ⟨e1, e2⟩ := Prod.mk.inj e
        subst e2
        rw [drop_head s pos hlt, abs_small s pos c st hc (by rw [hd])]
        have eb : UInt8.ofNat c = s.get! pos := by rw [e1]; exact UInt8.ofNat_toNat
        rw [eb]
        rfl
      · have hbig := encL_big c (by omega) hv
        have hk : (s.data.toList.drop pos).take k ≠ [] := by
          rw [drop_head s pos hlt]
          obtain ⟨k, rfl⟩ : ∃ j, k = j + 1 := ⟨k - 1, by omega⟩
          simp
        rw [hE] at hbig
        rw [abs_big s pos c st (by omega) (by rw [hd]) _ hE hk hbig]
        have hkl : ((s.data.toList.drop pos).take k).length = k := by
          rw [List.length_take]
          have hle := Lib.decodeL_le (s.data.toList.drop pos) (by rw [drop_head s pos hlt]; simp)
          rw [Lib.decodeL_drop, hd] at hle
          simp only at hle
          omega
        have := runL_app s ((s.data.toList.drop pos).take k) (s.data.toList.drop (pos + k)) pos (abs st)
        rw [hkl] at this
        rw [← this, ← List.drop_drop, List.take_append_drop]
    · have : s.data.toList.drop pos = [] := List.drop_eq_nil_of_le (by show s.size ≤ pos; omega)
      rw [this, runSc_end s _ pos _ hlt]; rfl
def initB : Bc := ⟨[], -1, [], false, false, false, false⟩
noncomputable def finB (s : ByteArray) (st : Bc) : List Tk × Int := if st.bad = true ∨ st.within = true then ([], 5) else (st.out ++ (if 0 ≤ st.frm then [wordOf (s.extract st.frm.toNat s.size)] else []), 0)
/-- The words of a line by bytes, and an error's number. -/
noncomputable def scanB (s : ByteArray) : List Tk × Int := if 200 < s.size then ([], 4) else if rightS s = false then ([], 5) else finB s (runL s s.data.toList 0 initB)
/-- Both scanners tell the same. -/
theorem scan_join (s : ByteArray) : scanT s = scanB s := by
  unfold scanT scanB
  by_cases h1 : 200 < s.size
  · rw [if_pos h1, if_pos h1]
  rw [if_neg h1, if_neg h1]
  cases h2 : rightS s
  · rfl
  · simp only [Bool.true_eq_false, if_false]
    have := run_join s s.size 0 initSc (by omega) h2
    rw [List.drop_zero] at this
    have e : abs initSc = initB := rfl
    rw [e] at this
    rw [← this]
    rfl
set_option maxRecDepth 100000 in
theorem runL_quo (s : ByteArray) (l : List UInt8) (i : Nat) (out : List Tk) (t r : List UInt8) : runL s (quoB l ++ r) i ⟨out, -1, t, true, false, false, false⟩ = runL s r (i + (quoB l).length) ⟨out, -1, t ++ l, true, false, false, false⟩ := by
  induction l generalizing i t with
  | nil => simp [quoB]
  | cons b l ih =>
    have e : quoB (b :: l) = (if b = 34 ∨ b = 92 then [92, b] else [b]) ++ quoB l := by simp [quoB]
    rw [e]
    by_cases hb : b = 34 ∨ b = 92
    · rw [if_pos hb]
      have e1 : stepB s i ⟨out, -1, t, true, false, false, false⟩ 92 = ⟨out, -1, t, true, true, false, false⟩ := by
        unfold stepB inB; simp
      have e2 : stepB s (i + 1) ⟨out, -1, t, true, true, false, false⟩ b = ⟨out, -1, t ++ [b], true, false, false, false⟩ := by
        unfold stepB inB
        rcases hb with rfl | rfl <;> simp
      show runL s (quoB l ++ r) (i + 1 + 1) (stepB s (i + 1) (stepB s i _ 92) b) = _
      rw [e1, e2, ih, List.append_assoc]
      congr 1
      simp; omega
    · rw [if_neg hb]
      have e1 : stepB s i ⟨out, -1, t, true, false, false, false⟩ b = ⟨out, -1, t ++ [b], true, false, false, false⟩ := by
        unfold stepB inB
        have h1 : b ≠ 34 := fun h => hb (.inl h)
        have h2 : b ≠ 92 := fun h => hb (.inr h)
        simp [h1, h2]
      show runL s (quoB l ++ r) (i + 1) (stepB s i _ b) = _
      rw [e1, ih, List.append_assoc]
      congr 1
      simp; omega
theorem rightF_dec {q : ByteArray} {f pos c k : Nat} (hd : Lib.decodeL (q.data.toList.drop pos) = (c, k)) (hl : pos < q.size) (hp : plainB c k = true) (hf : q.size ≤ pos + f) : ∃ f', q.size ≤ pos + k + f' ∧ rightF q f pos = rightF q f' (pos + k) := by
  obtain ⟨f, rfl⟩ : ∃ f', f = f' + 1 := ⟨f - 1, by omega⟩
  rw [Lib.decodeL_drop] at hd
  have hw := Lib.decode_width_pos q pos hl
  rw [hd] at hw
  refine ⟨f, by simp only at hw; omega, ?_⟩
  rw [rightF, if_pos hl, hd]
  simp only [hp, Bool.true_and]
theorem decodeL_small (b : UInt8) (t : List UInt8) (h : b.toNat < 128) : Lib.decodeL (b :: t) = (b.toNat, 1) := by
  rw [Lib.decodeL_N]
  exact if_pos h
theorem getD_front (l r : List UInt8) (k j : Nat) (h : j < k) (hk : k ≤ l.length) : (l.take k ++ r).getD j 0 = l.getD j 0 := by
  simp only [List.getD]
  rw [List.getElem?_append_left (by rw [List.length_take]; omega), List.getElem?_take_of_lt h]
theorem decodeL_more (l r : List UInt8) (c k : Nat) (hne : l ≠ []) (hd : Lib.decodeL l = (c, k)) (hk : 1 < k) : Lib.decodeL (l.take k ++ r) = (c, k) := by
  have hle := Lib.decodeL_le l hne
  rw [hd] at hle
  simp only at hle
  have hlen : (l.take k ++ r).length = k + r.length := by rw [List.length_append, List.length_take]; omega
  rw [Lib.decodeL_N] at hd ⊢
  rw [hlen]
  rw [getD_front l r k 0 (by omega) hle, getD_front l r k 1 (by omega) hle]
  generalize (l.getD 0 0).toNat = b0 at hd ⊢
  generalize (l.getD 1 0).toNat = b1 at hd ⊢
  rcases Lib.decodeN_shape l.length b0 b1 (l.getD 2 0).toNat (l.getD 3 0).toNat with ⟨h0, e⟩ | ⟨h0, h1, h2, h3, e⟩ | ⟨h0, h1, h2, h3, h4, h5, e⟩ | ⟨h0, h1, h2, h3, h4, h5, h6, e⟩ | e
  · rw [e] at hd; injection hd with _ h; omega
  · rw [e] at hd; injection hd with hc h
    subst h
    unfold Lib.decodeN
    rw [if_neg (by omega), if_pos (by omega), if_pos (by omega), hc]
  · rw [e] at hd; injection hd with hc h
    subst h
    rw [getD_front l r 3 2 (by omega) hle]
    generalize (l.getD 2 0).toNat = b2 at *
    unfold Lib.decodeN
    rw [if_neg (by omega), if_neg (by omega), if_pos (by omega), if_pos (by omega), hc]
  · rw [e] at hd; injection hd with hc h
    subst h
    rw [getD_front l r 4 2 (by omega) hle, getD_front l r 4 3 (by omega) hle]
    generalize (l.getD 2 0).toNat = b2 at *
    generalize (l.getD 3 0).toNat = b3 at *
    unfold Lib.decodeN
    rw [if_neg (by omega), if_neg (by omega), if_neg (by omega), if_pos (by omega), if_pos (by omega), hc]
  · rw [e] at hd; injection hd with _ h; omega
theorem drop_lt {q : ByteArray} {pos : Nat} {b : UInt8} {l : List UInt8} (h : q.data.toList.drop pos = b :: l) : pos < q.size ∧ q.data.toList.drop (pos + 1) = l := by
  refine ⟨?_, ?_⟩
  · apply Nat.lt_of_not_le
    intro hn
    rw [List.drop_eq_nil_of_le (show q.data.toList.length ≤ pos from hn)] at h
    cases h
  · rw [← List.drop_drop, h]; rfl
set_option maxRecDepth 100000 in
theorem right_quo (s q : ByteArray) : ∀ (f pos f' pos' : Nat), s.size ≤ pos + f → q.size ≤ pos' + f' → q.data.toList.drop pos' = quoB (s.data.toList.drop pos) ++ [34] → rightF s f pos = true → rightF q f' pos' = true := by
  have last : ∀ (f' pos' : Nat), q.size ≤ pos' + f' → q.data.toList.drop pos' = [34] → rightF q f' pos' = true := by
    intro f' pos' hf' hq
    obtain ⟨hl, hr⟩ := drop_lt hq
    obtain ⟨f2, hf2, e⟩ := rightF_dec (c := 34) (k := 1) (by rw [hq]; exact decodeL_small 34 [] (by decide)) hl (by decide) hf'
    rw [e]
    refine rightF_end _ _ _ ?_
    intro h
    have h' : pos' + 1 < q.data.toList.length := h
    rw [List.drop_eq_getElem_cons h'] at hr
    cases hr
  intro f
  induction f with
  | zero =>
    intro pos f' pos' hf hf' hq _
    have : s.data.toList.drop pos = [] := List.drop_eq_nil_of_le (by show s.size ≤ pos; omega)
    rw [this] at hq
    exact last f' pos' hf' hq
  | succ f ih =>
    intro pos f' pos' hf hf' hq h
    by_cases hlt : pos < s.size
    · have hwd := Lib.decode_width_pos s pos hlt
      have hv := decodeN_valid (s.size - pos) (s.get! pos).toNat (s.get! (pos + 1)).toNat (s.get! (pos + 2)).toNat (s.get! (pos + 3)).toNat
      have hlow := @decodeN_low (s.size - pos) (s.get! pos).toNat (s.get! (pos + 1)).toNat (s.get! (pos + 2)).toNat (s.get! (pos + 3)).toNat
      have hdn := Lib.decode_at s pos
      have hdl := Lib.decodeL_drop s pos
      rw [← hdn] at hv hlow
      rw [rightF, if_pos hlt] at h
      obtain ⟨c, k, hd⟩ : ∃ c k, Utf8.decode s pos = (c, k) := ⟨_, _, rfl⟩
      rw [hd] at h hwd hv hlow hdn hdl
      simp only [Bool.and_eq_true] at h hwd hv hlow
      have hE := enc_dec hlt hd h.1
      have hw := (plainB_iff c k).1 h.1
      by_cases hc : c < 128
      · have hb := hlow hc
        have e : (c, k) = ((s.get! pos).toNat, 1) := by
          rw [hdn]
          exact if_pos hb
        obtain ⟨e1, e2⟩ := Prod.mk.inj e
        subst e2
        rw [drop_head s pos hlt] at hq
        generalize s.get! pos = b at *
        have e3 : quoB (b :: s.data.toList.drop (pos + 1)) = (if b = 34 ∨ b = 92 then [92, b] else [b]) ++ quoB (s.data.toList.drop (pos + 1)) := by simp [quoB]
        rw [e3] at hq
        have hpb : plainB b.toNat 1 = true := by rw [← e1]; exact h.1
        by_cases hq2 : b = 34 ∨ b = 92
        · rw [if_pos hq2] at hq
          have hq' : q.data.toList.drop pos' = 92 :: (b :: (quoB (s.data.toList.drop (pos + 1)) ++ [34])) := hq
          obtain ⟨hl, hr⟩ := drop_lt hq'
          obtain ⟨f2, hf2, e2⟩ := rightF_dec (c := 92) (k := 1) (by rw [hq']; exact decodeL_small 92 _ (by decide)) hl (by decide) hf'
          obtain ⟨hl2, hr2⟩ := drop_lt hr
          obtain ⟨f3, hf3, e4⟩ := rightF_dec (c := b.toNat) (k := 1) (by rw [hr]; exact decodeL_small b _ hb) hl2 hpb hf2
          rw [e2, e4]
          exact ih (pos + 1) f3 (pos' + 1 + 1) (by omega) hf3 hr2 h.2
        · rw [if_neg hq2] at hq
          have hq' : q.data.toList.drop pos' = b :: (quoB (s.data.toList.drop (pos + 1)) ++ [34]) := hq
          obtain ⟨hl, hr⟩ := drop_lt hq'
          obtain ⟨f2, hf2, e2⟩ := rightF_dec (c := b.toNat) (k := 1) (by rw [hq']; exact decodeL_small b _ hb) hl hpb hf'
          rw [e2]
          exact ih (pos + 1) f2 (pos' + 1) (by omega) hf2 hr h.2
      · have hbig := encL_big c (by omega) hv
        have hne : s.data.toList.drop pos ≠ [] := by rw [drop_head s pos hlt]; simp
        have hk1 : 1 < k := by
          rcases Nat.lt_or_ge 1 k with h1 | h1
          · exact h1
          · exfalso
            have hk : k = 1 := by omega
            subst hk
            have hsh := Lib.decodeN_shape (s.size - pos) (s.get! pos).toNat (s.get! (pos + 1)).toNat (s.get! (pos + 2)).toNat (s.get! (pos + 3)).toNat
            rw [← hdn] at hsh
            simp only [Prod.mk.injEq] at hsh
            omega
        rw [hE] at hbig
        have hsplit : quoB (s.data.toList.drop pos) = (s.data.toList.drop pos).take k ++ quoB (s.data.toList.drop (pos + k)) := by
          conv => lhs; rw [← List.take_append_drop k (s.data.toList.drop pos)]
          rw [quoB_app, quoB_big hbig, List.drop_drop]
        rw [hsplit, List.append_assoc] at hq
        have hle := Lib.decodeL_le (s.data.toList.drop pos) hne
        rw [hdl] at hle
        simp only at hle
        have hl : pos' < q.size := by
          apply Nat.lt_of_not_le
          intro hn
          rw [List.drop_eq_nil_of_le (show q.data.toList.length ≤ pos' from hn)] at hq
          have := congrArg List.length hq
          simp at this
        obtain ⟨f2, hf2, e2⟩ := rightF_dec (c := c) (k := k) (by rw [hq]; exact decodeL_more _ _ c k hne hdl hk1) hl h.1 hf'
        rw [e2]
        refine ih (pos + k) f2 (pos' + k) (by omega) hf2 ?_ h.2
        rw [← List.drop_drop, hq, List.drop_left' (by rw [List.length_take]; omega)]
    · have : s.data.toList.drop pos = [] := List.drop_eq_nil_of_le (by show s.size ≤ pos; omega)
      rw [this] at hq
      exact last f' pos' hf' hq
set_option maxRecDepth 100000 in
/-- What is quoted may be, and is scanned as it was. -/
theorem scan_quote (s q : ByteArray) (hr : rightS s = true) (hq : q.data.toList = quotePT s) (hl : q.size ≤ 200) : scanT q = ([.quo s], 0) := by
  have hR : rightS q = true := by
    have hq0 : q.data.toList.drop 0 = 34 :: (quoB s.data.toList ++ [34]) := by rw [List.drop_zero, hq]; rfl
    obtain ⟨hl, hr1⟩ := drop_lt hq0
    obtain ⟨f2, hf2, e2⟩ := rightF_dec (f := q.size) (c := 34) (k := 1) (by rw [hq0]; exact decodeL_small 34 _ (by decide)) hl (by decide) (by omega)
    show rightF q q.size 0 = true
    rw [e2]
    exact right_quo s q s.size 0 f2 (0 + 1) (by omega) hf2 (by rw [hr1, List.drop_zero]) hr
  rw [scan_join]
  unfold scanB
  rw [if_neg (by omega), if_neg (by rw [hR]; simp), hq]
  have e : quotePT s = 34 :: (quoB s.data.toList ++ [34]) := rfl
  rw [e]
  have e1 : stepB q 0 initB 34 = ⟨[], -1, [], true, false, false, false⟩ := by
    unfold stepB outB initB; simp
  show finB q (runL q (quoB s.data.toList ++ [34]) (0 + 1) (stepB q 0 initB 34)) = _
  rw [e1, runL_quo]
  have e2 : ∀ i, stepB q i ⟨[], -1, [] ++ s.data.toList, true, false, false, false⟩ 34 = ⟨[.quo s], -1, [], false, false, true, false⟩ := by
    intro i
    unfold stepB inB; simp
  show finB q (stepB q _ _ 34) = _
  rw [e2]
  unfold finB
  simp
end Go.Proofs.YtnhkpnohadbcdaaDoor
