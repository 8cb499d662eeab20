/- The plain law of layer 12 (filter): communities and ranges as texts. No program in sight. No conditions. -/
import Derived.Test.YtnhkpnohadbcdaaDoorPfxQ
namespace Go.Proofs.YtnhkpnohadbcdaaDoor
open Go.RowKit
/-- What stands ahead of a sign's first place, and behind it. -/
theorem sep_split {g : UInt8} {l l' m m' : List UInt8} (h : l ++ g :: m = l' ++ g :: m') (hl : g ∉ l) (hl' : g ∉ l') : l = l' ∧ m = m' := by
  induction l generalizing l' with
  | nil =>
    cases l' with
    | nil => exact ⟨rfl, by simpa using h⟩
    | cons x l' =>
      simp only [List.nil_append, List.cons_append, List.cons.injEq] at h
      exact absurd (by rw [← h.1]; simp) hl'
  | cons x l ih =>
    cases l' with
    | nil =>
      simp only [List.nil_append, List.cons_append, List.cons.injEq] at h
      exact absurd (by rw [h.1]; simp) hl
    | cons y l' =>
      simp only [List.cons_append, List.cons.injEq] at h
      obtain ⟨e1, e2⟩ := ih h.2 (fun hm => hl (by simp [hm])) (fun hm => hl' (by simp [hm]))
      exact ⟨by rw [h.1, e1], e2⟩
theorem sep_at {g : UInt8} {l : List UInt8} {k : Nat} (hk : l[k]? = some g) : l = l.take k ++ g :: l.drop (k + 1) := by
  obtain ⟨h1, h2⟩ := List.getElem?_eq_some_iff.1 hk
  rw [← h2, ← List.drop_eq_getElem_cons h1, List.take_append_drop]
/-- A digit is a digit's byte. -/
theorem decU_no {n : Nat} {g : UInt8} (hg : ¬ valI (g.toNat : Int) ≤ 9) : g ∉ decU n := fun h => hg (decU_digit n g h)
theorem no58 (n : Nat) : (58 : UInt8) ∉ decU n := decU_no (by decide)
theorem no45 (n : Nat) : (45 : UInt8) ∉ decU n := decU_no (by decide)
theorem no32 (n : Nat) : (32 : UInt8) ∉ decU n := decU_no (by decide)
theorem no46 (n : Nat) : (46 : UInt8) ∉ decU n := decU_no (by decide)
theorem no47 (n : Nat) : (47 : UInt8) ∉ decU n := decU_no (by decide)
/-- A cut at the first place of a sign, or none. -/
def CutAns (g : UInt8) (l a b : List UInt8) (ok : Bool) : Prop := (ok = true ∧ ∃ k, l[k]? = some g ∧ g ∉ l.take k ∧ a = l.take k ∧ b = l.drop (k + 1)) ∨ (ok = false ∧ a = [] ∧ b = [] ∧ g ∉ l)
/-- What a cut says of a text that has the sign. -/
theorem CutAns.of {g : UInt8} {l a b x y : List UInt8} {ok : Bool} (h : CutAns g l a b ok) (e : x ++ g :: y = l) (hx : g ∉ x) : ok = true ∧ a = x ∧ b = y := by
  rcases h with ⟨rfl, k, hk, h0, rfl, rfl⟩ | ⟨_, _, _, h0⟩
  · obtain ⟨e3, e4⟩ := sep_split (e.trans (sep_at hk)) hx h0
    exact ⟨rfl, e3.symm, e4.symm⟩
  · exact absurd (by rw [← e]; simp) h0
/-- A community's text. -/
def commT (c : Nat) : List UInt8 := if c = 4294967041 then [110, 111, 45, 101, 120, 112, 111, 114, 116] else if c = 4294967042 then [110, 111, 45, 97, 100, 118, 101, 114, 116, 105, 115, 101] else if c = 4294967043 then [108, 111, 99, 97, 108, 45, 97, 115] else decU (c / 65536) ++ 58 :: decU (c % 65536)
theorem commT_1 : commT 4294967041 = [110, 111, 45, 101, 120, 112, 111, 114, 116] := rfl
theorem commT_2 : commT 4294967042 = [110, 111, 45, 97, 100, 118, 101, 114, 116, 105, 115, 101] := rfl
theorem commT_3 : commT 4294967043 = [108, 111, 99, 97, 108, 45, 97, 115] := rfl
def named (c : Nat) : Prop := c = 4294967041 ∨ c = 4294967042 ∨ c = 4294967043
theorem commT_num {c : Nat} (h : ¬ named c) : commT c = decU (c / 65536) ++ 58 :: decU (c % 65536) := by
  unfold commT named at *
  rw [if_neg (by omega), if_neg (by omega), if_neg (by omega)]
theorem commT_len (c : Nat) (h : c < 4294967296) : (commT c).length ≤ 20 := by
  unfold commT
  repeat' split
  · decide
  · decide
  · decide
  · have h1 := decU_len 4 (c / 65536) (by omega)
    have h2 := decU_len 4 (c % 65536) (by omega)
    simp only [List.length_append, List.length_cons]
    omega
theorem commT_inj {c d : Nat} (h : commT c = commT d) : c = d := by
  have key : ∀ {c d : Nat}, named c → ¬ named d → commT c ≠ commT d := by
    intro c d hc hd h
    rw [commT_num hd] at h
    have h58 : (58 : UInt8) ∈ commT c := by rw [h]; simp
    rcases hc with rfl | rfl | rfl <;> revert h58 <;> decide
  by_cases hc : named c <;> by_cases hd : named d
  · rcases hc with rfl | rfl | rfl <;> rcases hd with rfl | rfl | rfl <;> first | rfl | (revert h; decide)
  · exact absurd h (key hc hd)
  · exact absurd h.symm (key hd hc)
  · rw [commT_num hc, commT_num hd] at h
    obtain ⟨e1, e2⟩ := sep_split h (no58 _) (no58 _)
    have e3 := decU_inj e1
    have e4 := decU_inj e2
    omega
/-- What a text answers, read as a community. -/
def CmAns (l : List UInt8) (c : Nat) (ok : Bool) : Prop := (ok = true ∧ c < 4294967296 ∧ commT c = l) ∨ (ok = false ∧ c = 0 ∧ ∀ d, d < 4294967296 → commT d ≠ l)
theorem CmAns.one {l : List UInt8} {c d : Nat} {ok ok' : Bool} (h : CmAns l c ok) (h' : CmAns l d ok') : c = d ∧ ok = ok' := by
  rcases h with ⟨rfl, h1, h2⟩ | ⟨rfl, rfl, h2⟩
  · rcases h' with ⟨rfl, g1, g2⟩ | ⟨rfl, rfl, g2⟩
    · exact ⟨commT_inj (h2.trans g2.symm), rfl⟩
    · exact absurd h2 (g2 c h1)
  · rcases h' with ⟨rfl, g1, g2⟩ | ⟨rfl, rfl, g2⟩
    · exact absurd g2 (h2 d g1)
    · exact ⟨rfl, rfl⟩
theorem CmAns.text (c : Nat) (h : c < 4294967296) : CmAns (commT c) c true := .inl ⟨rfl, h, rfl⟩
/-- No community's text: no name, and no two numbers around a colon that are one. -/
theorem CmAns.no {l a b : List UInt8} {ok ok1 ok2 : Bool} {x y : Int} (n1 : commT 4294967041 ≠ l) (n2 : commT 4294967042 ≠ l) (n3 : commT 4294967043 ≠ l) (hc : CutAns 58 l a b ok) (hx : IntAns a x ok1) (hy : IntAns b y ok2)
    (h : ok1 = false ∨ ok2 = false ∨ 65535 < x ∨ 65535 < y ∨ ∀ d : Nat, x = (d / 65536 : Nat) → y = (d % 65536 : Nat) → commT d ≠ l) : CmAns l 0 false := by
  refine .inr ⟨rfl, rfl, fun d hd he => ?_⟩
  have hn : ¬ named d := by
    rintro (rfl | rfl | rfl)
    · exact n1 he
    · exact n2 he
    · exact n3 he
  have he' := he
  rw [commT_num hn] at he
  obtain ⟨_, rfl, rfl⟩ := hc.of he (no58 _)
  have t1 := IntAns.text ((d / 65536 : Nat) : Int)
  have t2 := IntAns.text ((d % 65536 : Nat) : Int)
  rw [decI_nat, if_pos (by omega)] at t1 t2
  have e1 := hx.one t1
  have e2 := hy.one t2
  rcases h with h | h | h | h | h
  · rw [e1.2] at h; exact absurd h (by simp; omega)
  · rw [e2.2] at h; exact absurd h (by simp; omega)
  · rw [e1.1] at h; omega
  · rw [e2.1] at h; omega
  · exact h d e1.1 e2.1 he'
theorem IntAns.nil {v : Int} {ok : Bool} (h : IntAns [] v ok) : ok = false ∧ v = 0 := by
  rcases h with ⟨_, h1, _, h3⟩ | ⟨h, h2, _⟩
  · obtain ⟨N, rfl⟩ := Int.eq_ofNat_of_zero_le h1
    rw [decI_nat] at h3
    exact absurd h3 (decU_ne N)
  · exact ⟨h, h2⟩
theorem IntAns.nat {l : List UInt8} {v : Int} {ok : Bool} (h : IntAns l v ok) : ∃ n : Nat, v = n ∧ n ≤ 4294967295 := by
  rcases h with ⟨_, h1, h2, _⟩ | ⟨_, rfl, _⟩
  · obtain ⟨N, rfl⟩ := Int.eq_ofNat_of_zero_le h1
    exact ⟨N, rfl, by omega⟩
  · exact ⟨0, rfl, by omega⟩
/-- May it be a range? -/
def rgRight (a : Nat) (n lo hi : Int) : Bool := pRight a n && decide (n ≤ lo ∧ lo ≤ hi ∧ hi ≤ 32)
def rgIn (a : Nat) (n lo hi : Int) (b : Nat) (m : Int) : Bool := rgRight a n lo hi && pCovers a n b m && decide (lo ≤ m ∧ m ≤ hi)
/-- A range's text. -/
def rgT (a n lo hi : Nat) : List UInt8 := pfT a n ++ 32 :: (decU lo ++ 45 :: decU hi)
theorem rgRight_of {a : Nat} {n lo hi : Int} (h : rgRight a n lo hi = true) : ∃ k x y : Nat, n = k ∧ lo = x ∧ hi = y ∧ k ≤ x ∧ x ≤ y ∧ y ≤ 32 ∧ pRight a (k : Int) = true := by
  unfold rgRight at h
  rw [Bool.and_eq_true, decide_eq_true_eq] at h
  obtain ⟨k, rfl, hk, _⟩ := pRight_of h.1
  obtain ⟨x, rfl⟩ := Int.eq_ofNat_of_zero_le (show 0 ≤ lo by omega)
  obtain ⟨y, rfl⟩ := Int.eq_ofNat_of_zero_le (show 0 ≤ hi by omega)
  exact ⟨k, x, y, rfl, rfl, rfl, by omega, by omega, by omega, h.1⟩
theorem adT_no32 (a : Nat) : (32 : UInt8) ∉ adT a := by
  unfold adT
  simp only [List.mem_append, List.mem_cons, List.not_mem_nil, or_false, not_or]
  refine ⟨⟨⟨⟨⟨⟨no32 _, by decide⟩, no32 _⟩, by decide⟩, no32 _⟩, by decide⟩, no32 _⟩
theorem pfT_no32 (a n : Nat) : (32 : UInt8) ∉ pfT a n := by
  unfold pfT
  simp only [List.mem_append, List.mem_cons, List.not_mem_nil, or_false, not_or]
  exact ⟨⟨adT_no32 a, by decide⟩, no32 _⟩
theorem rgT_inj {a n lo hi b m lo' hi' : Nat} (ha : a < 4294967296) (hb : b < 4294967296) (h : rgT a n lo hi = rgT b m lo' hi') : a = b ∧ n = m ∧ lo = lo' ∧ hi = hi' := by
  obtain ⟨e1, e2⟩ := sep_split h (pfT_no32 _ _) (pfT_no32 _ _)
  obtain ⟨e3, e4⟩ := sep_split e2 (no45 _) (no45 _)
  obtain ⟨e5, e6⟩ := pfT_inj ha hb e1
  exact ⟨e5, e6, decU_inj e3, decU_inj e4⟩
/-- What a text answers, read as a range. -/
def RgAns (l : List UInt8) (a n lo hi : Nat) (ok : Bool) : Prop := (ok = true ∧ a < 4294967296 ∧ rgRight a n lo hi = true ∧ rgT a n lo hi = l) ∨ (ok = false ∧ a = 0 ∧ n = 0 ∧ lo = 0 ∧ hi = 0 ∧ ∀ b m x y : Nat, b < 4294967296 → rgRight b m x y = true → rgT b m x y ≠ l)
theorem RgAns.one {l : List UInt8} {a n lo hi b m x y : Nat} {ok ok' : Bool} (h : RgAns l a n lo hi ok) (h' : RgAns l b m x y ok') : a = b ∧ n = m ∧ lo = x ∧ hi = y ∧ ok = ok' := by
  rcases h with ⟨rfl, h1, h2, h3⟩ | ⟨rfl, rfl, rfl, rfl, rfl, h3⟩
  · rcases h' with ⟨rfl, g1, g2, g3⟩ | ⟨rfl, rfl, rfl, rfl, rfl, g3⟩
    · obtain ⟨e1, e2, e3, e4⟩ := rgT_inj h1 g1 (h3.trans g3.symm)
      exact ⟨e1, e2, e3, e4, rfl⟩
    · exact absurd h3 (g3 a n lo hi h1 h2)
  · rcases h' with ⟨rfl, g1, g2, g3⟩ | ⟨rfl, rfl, rfl, rfl, rfl, g3⟩
    · exact absurd g3 (h3 b m x y g1 g2)
    · exact ⟨rfl, rfl, rfl, rfl, rfl⟩
theorem RgAns.text {a n lo hi : Nat} (ha : a < 4294967296) (h : rgRight a n lo hi = true) : RgAns (rgT a n lo hi) a n lo hi true := .inl ⟨rfl, ha, h, rfl⟩
/-- The parts of a range's text. -/
theorem rg_parts {l s t u v : List UInt8} {a n lo hi : Nat} {ok1 ok2 ok3 : Bool} {pa pn : Nat} {x y : Int} {ox oy : Bool} (ha : a < 4294967296) (hr : rgRight a n lo hi = true) (e : rgT a n lo hi = l)
    (h1 : CutAns 32 l s t ok1) (h2 : CutAns 45 t u v ok2) (hp : PfA s pa pn ok3) (hx : IntAns u x ox) (hy : IntAns v y oy) : ok3 = true ∧ pa = a ∧ pn = n ∧ x = lo ∧ y = hi := by
  obtain ⟨k, p, q, hk, hp', hq, _, _, _, hpr⟩ := rgRight_of hr
  have hk' : n = k := by omega
  subst hk'
  obtain ⟨_, rfl, rfl⟩ := h1.of e (pfT_no32 _ _)
  obtain ⟨_, rfl, rfl⟩ := h2.of rfl (no45 _)
  have e1 := PfAns.one hp (show PfA (pfT a n) a n true from .inl ⟨rfl, ha, by omega, hpr, rfl⟩)
  have t1 := IntAns.text (lo : Int)
  have t2 := IntAns.text (hi : Int)
  rw [decI_nat, if_pos (by omega)] at t1 t2
  exact ⟨e1.2.2, e1.1, e1.2.1, (hx.one t1).1, (hy.one t2).1⟩
theorem cov_of {a : Nat} {n : Int} {b : Nat} {m : Int} (h : pCovers a n b m = true) : pRight b m = true ∧ pRight a n = true ∧ n ≤ m ∧ normN b n = a := by
  unfold pCovers pHolds at h
  simp only [Bool.and_eq_true, decide_eq_true_eq] at h
  exact ⟨h.1.1, h.2.1, h.1.2, h.2.2⟩
theorem cov_tr {a : Nat} {n : Int} {b : Nat} {m : Int} {c : Nat} {k : Int} (h1 : pCovers a n b m = true) (h2 : pCovers b m c k = true) : pCovers a n c k = true := by
  have h1 := cov_of h1
  have h2 := cov_of h2
  unfold pCovers pHolds
  have e : normN c n = a := by
    obtain ⟨x, rfl, hx, _⟩ := pRight_of h1.2.1
    obtain ⟨y, rfl, hy, _⟩ := pRight_of h1.1
    rw [← h1.2.2.2, ← h2.2.2.2, normN_norm]
    rw [cl_nat hx, cl_nat hy]; omega
  simp [h2.1, h1.2.1, e, show n ≤ k by omega]
/-- What is in a range is in one of a prefix that covers its. -/
theorem in_wider {a : Nat} {n lo hi : Int} {b : Nat} {m : Int} {c : Nat} {k : Int} (h : rgIn a n lo hi b m = true) (hw : pCovers c k a n = true) : rgIn c k lo hi b m = true := by
  unfold rgIn rgRight at h ⊢
  have h2 := cov_of hw
  simp only [Bool.and_eq_true, decide_eq_true_eq] at h ⊢
  exact ⟨⟨⟨h2.2.1, by omega⟩, cov_tr hw h.1.2⟩, h.2⟩
end Go.Proofs.YtnhkpnohadbcdaaDoor
