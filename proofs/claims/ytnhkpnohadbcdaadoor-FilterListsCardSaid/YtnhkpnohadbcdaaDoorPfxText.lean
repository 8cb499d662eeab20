/- The plain law of layer 2 (prefix): texts. No program in sight. No conditions. -/
import Derived.Test.YtnhkpnohadbcdaaDoorDecPlain
namespace Go.Proofs.YtnhkpnohadbcdaaDoor
/-- A number as a text: four numbers with dots between. -/
def adT (a : Nat) : List UInt8 := decU (a / 16777216) ++ [46] ++ decU (a / 65536 % 256) ++ [46] ++ decU (a / 256 % 256) ++ [46] ++ decU (a % 256)
/-- One letter of a text that is read; none: no number. -/
def paStep (st : Option (Nat × Nat)) (c : UInt8) : Option (Nat × Nat) :=
  match st with
  | none => none
  | some (a, p) => if c.toNat = 46 then some (a * 256 % 4294967296 + p % 256, 0) else if 48 ≤ c.toNat ∧ c.toNat ≤ 57 then some (a, min (10 * p + (c.toNat - 48)) 1000) else none
/-- The same of the document's reader. -/
def prStep (st : Option (Nat × Nat)) (c : UInt8) : Option (Nat × Nat) :=
  match st with
  | none => none
  | some (a, p) =>
    if c.toNat = 46 then (if 16777215 < 256 * a + p then none else some (256 * a + p, 0))
    else if 10 * p + c.toNat < 48 ∨ 255 < 10 * p + c.toNat - 48 then none else some (a, 10 * p + c.toNat - 48)
def paL (l : List UInt8) : Option (Nat × Nat) := l.foldl paStep (some (0, 0))
def prL (l : List UInt8) : Option (Nat × Nat) := l.foldl prStep (some (0, 0))
theorem pa_none (l : List UInt8) : l.foldl paStep none = none := by induction l with | nil => rfl | cons c l ih => exact ih
theorem pr_none (l : List UInt8) : l.foldl prStep none = none := by induction l with | nil => rfl | cons c l ih => exact ih
theorem pa_step {a p d : Nat} {c : UInt8} (e : c.toNat = 48 + d) (hd : d < 10) (h : 10 * p + d ≤ 1000) : paStep (some (a, p)) c = some (a, 10 * p + d) := by
  unfold paStep
  simp only
  rw [if_neg (by omega), if_pos (by omega), e, show 48 + d - 48 = d by omega, Nat.min_eq_left h]
theorem pr_step {a p d : Nat} {c : UInt8} (e : c.toNat = 48 + d) (hd : d < 10) (h : 10 * p + d ≤ 255) : prStep (some (a, p)) c = some (a, 10 * p + d) := by
  unfold prStep
  simp only
  rw [if_neg (by omega), e, if_neg (by omega), show 10 * p + (48 + d) - 48 = 10 * p + d by omega]
theorem pa_dec (a : Nat) : ∀ k n : Nat, n < 10 ^ k → n ≤ 1000 → (decU n).foldl paStep (some (a, 0)) = some (a, n) := by
  intro k
  induction k with
  | zero =>
    intro n h _
    rw [decU_small (by omega), List.foldl_cons, pa_step (dg_low n (by omega)) (by omega) (by omega)]
    simp
  | succ k ih =>
    intro n h hn
    by_cases h10 : n < 10
    · rw [decU_small h10, List.foldl_cons, pa_step (dg_low n h10) h10 (by omega)]
      simp
    · have hp : 10 ^ (k + 1) = 10 ^ k * 10 := Nat.pow_succ _ _
      rw [decU_big h10, List.foldl_append, ih (n / 10) (by omega) (by omega), List.foldl_cons, pa_step (dg_low (n % 10) (by omega)) (by omega) (by omega)]
      simp
      omega
theorem pr_dec (a : Nat) : ∀ k n : Nat, n < 10 ^ k → n ≤ 255 → (decU n).foldl prStep (some (a, 0)) = some (a, n) := by
  intro k
  induction k with
  | zero =>
    intro n h _
    rw [decU_small (by omega), List.foldl_cons, pr_step (dg_low n (by omega)) (by omega) (by omega)]
    simp
  | succ k ih =>
    intro n h hn
    by_cases h10 : n < 10
    · rw [decU_small h10, List.foldl_cons, pr_step (dg_low n h10) h10 (by omega)]
      simp
    · have hp : 10 ^ (k + 1) = 10 ^ k * 10 := Nat.pow_succ _ _
      rw [decU_big h10, List.foldl_append, ih (n / 10) (by omega) (by omega), List.foldl_cons, pr_step (dg_low (n % 10) (by omega)) (by omega) (by omega)]
      simp
      omega
theorem pa_dot (a p : Nat) : [(46 : UInt8)].foldl paStep (some (a, p)) = some (a * 256 % 4294967296 + p % 256, 0) := by simp [paStep]
theorem pr_dot (a p : Nat) (h : 256 * a + p ≤ 16777215) : [(46 : UInt8)].foldl prStep (some (a, p)) = some (256 * a + p, 0) := by
  simp only [List.foldl_cons, List.foldl_nil, prStep]
  rw [if_pos (by decide), if_neg (by omega)]
theorem pa_adT (a : Nat) (h : a < 4294967296) : paL (adT a) = some (a / 256, a % 256) := by
  unfold paL adT
  simp only [List.foldl_append]
  rw [pa_dec 0 3 _ (by omega) (by omega), pa_dot, pa_dec _ 3 _ (by omega) (by omega), pa_dot, pa_dec _ 3 _ (by omega) (by omega), pa_dot, pa_dec _ 3 _ (by omega) (by omega)]
  congr 2
  omega
theorem pr_adT (a : Nat) (h : a < 4294967296) : prL (adT a) = some (a / 256, a % 256) := by
  unfold prL adT
  simp only [List.foldl_append]
  rw [pr_dec 0 3 _ (by omega) (by omega), pr_dot _ _ (by omega), pr_dec _ 3 _ (by omega) (by omega), pr_dot _ _ (by omega), pr_dec _ 3 _ (by omega) (by omega), pr_dot _ _ (by omega), pr_dec _ 3 _ (by omega) (by omega)]
  congr 2
  omega
theorem adT_len (a : Nat) (h : a < 4294967296) : (adT a).length ≤ 15 := by
  unfold adT
  have h1 := decU_len 2 (a / 16777216) (by omega)
  have h2 := decU_len 2 (a / 65536 % 256) (by omega)
  have h3 := decU_len 2 (a / 256 % 256) (by omega)
  have h4 := decU_len 2 (a % 256) (by omega)
  simp only [List.length_append, List.length_cons, List.length_nil]
  omega
theorem adT_inj {a b : Nat} (ha : a < 4294967296) (hb : b < 4294967296) (h : adT a = adT b) : a = b := by
  have e := pa_adT a ha
  rw [h, pa_adT b hb] at e
  injection e with e
  injection e with e1 e2
  omega
/-- What a text answers, read as a number with dots. -/
def AdAns (l : List UInt8) (v : Nat) (ok : Bool) : Prop := (ok = true ∧ v < 4294967296 ∧ adT v = l) ∨ (ok = false ∧ v = 0 ∧ ∀ a, a < 4294967296 → adT a ≠ l)
theorem AdAns.one {l : List UInt8} {v v' : Nat} {ok ok' : Bool} (h : AdAns l v ok) (h' : AdAns l v' ok') : v = v' ∧ ok = ok' := by
  rcases h with ⟨rfl, h1, h2⟩ | ⟨rfl, rfl, h2⟩
  · rcases h' with ⟨rfl, g1, g2⟩ | ⟨rfl, rfl, g2⟩
    · exact ⟨adT_inj h1 g1 (h2.trans g2.symm), rfl⟩
    · exact absurd h2 (g2 v h1)
  · rcases h' with ⟨rfl, g1, g2⟩ | ⟨rfl, rfl, g2⟩
    · exact absurd g2 (h2 v' g1)
    · exact ⟨rfl, rfl⟩
theorem AdAns.text (a : Nat) (h : a < 4294967296) : AdAns (adT a) a true := .inl ⟨rfl, h, rfl⟩
/-- The code's reader stops at a letter. -/
theorem AdAns.paNo {l : List UInt8} {k : Nat} (h : paL (l.take k) = none) : AdAns l 0 false := by
  refine .inr ⟨rfl, rfl, fun a ha he => ?_⟩
  have e := pa_adT a ha
  rw [he, ← List.take_append_drop k l] at e
  unfold paL at e h
  rw [List.foldl_append, h, pa_none] at e
  cases e
/-- The document's reader stops. -/
theorem AdAns.prNo {l : List UInt8} {k : Nat} (h : prL (l.take k) = none) : AdAns l 0 false := by
  refine .inr ⟨rfl, rfl, fun a ha he => ?_⟩
  have e := pr_adT a ha
  rw [he, ← List.take_append_drop k l] at e
  unfold prL at e h
  rw [List.foldl_append, h, pr_none] at e
  cases e
theorem AdAns.paEnd {l : List UInt8} {a p : Nat} (h : paL l = some (a, p)) (hne : adT (a * 256 % 4294967296 + p % 256) ≠ l) : AdAns l 0 false := by
  refine .inr ⟨rfl, rfl, fun b hb he => hne ?_⟩
  have e := pa_adT b hb
  rw [he, h] at e
  injection e with e
  injection e with e1 e2
  rw [← he]
  congr 1
  omega
theorem AdAns.prEnd {l : List UInt8} {a p : Nat} (h : prL (l.take 16) = some (a, p)) (hne : adT (256 * a + p) ≠ l) : AdAns l 0 false := by
  refine .inr ⟨rfl, rfl, fun b hb he => hne ?_⟩
  have e := pr_adT b hb
  have hl := adT_len b hb
  rw [he] at hl
  rw [List.take_of_length_le (by omega)] at h
  rw [he, h] at e
  injection e with e
  injection e with e1 e2
  rw [← he]
  congr 1
  omega
theorem pr_bd : ∀ (l : List UInt8) (a p x y : Nat), l.foldl prStep (some (x, y)) = some (a, p) → x ≤ 16777215 → y ≤ 255 → a ≤ 16777215 ∧ p ≤ 255
  | [], a, p, x, y, h, hx, hy => by simp at h; omega
  | c :: l, a, p, x, y, h, hx, hy => by
    simp only [List.foldl_cons, prStep] at h
    split at h
    · split at h
      · rw [pr_none] at h; cases h
      · exact pr_bd l a p _ _ h (by omega) (by omega)
    · split at h
      · rw [pr_none] at h; cases h
      · exact pr_bd l a p _ _ h (by omega) (by omega)
theorem pa_bd : ∀ (l : List UInt8) (a p x y : Nat), l.foldl paStep (some (x, y)) = some (a, p) → x < 4294967296 → y ≤ 1000 → a < 4294967296 ∧ p ≤ 1000
  | [], a, p, x, y, h, hx, hy => by simp at h; omega
  | c :: l, a, p, x, y, h, hx, hy => by
    simp only [List.foldl_cons, paStep] at h
    split at h
    · exact pa_bd l a p _ _ h (by omega) (by omega)
    · split at h
      · exact pa_bd l a p _ _ h (by omega) (by omega)
      · rw [pa_none] at h; cases h
theorem paL_bd {l : List UInt8} {a p : Nat} (h : paL l = some (a, p)) : a < 4294967296 ∧ p ≤ 1000 := pa_bd l a p 0 0 h (by omega) (by omega)
theorem prL_bd {l : List UInt8} {a p : Nat} (h : prL l = some (a, p)) : a ≤ 16777215 ∧ p ≤ 255 := pr_bd l a p 0 0 h (by omega) (by omega)
theorem paL_snoc (l : List UInt8) (c : UInt8) : paL (l ++ [c]) = paStep (paL l) c := by simp [paL]
theorem prL_snoc (l : List UInt8) (c : UInt8) : prL (l ++ [c]) = prStep (prL l) c := by simp [prL]
/-- No letter of a number's text is a slash. -/
theorem adT_noslash (a : Nat) (h : a < 4294967296) : (47 : UInt8) ∉ adT a := by
  intro hm
  obtain ⟨s, t, e⟩ := List.append_of_mem hm
  have e1 := pa_adT a h
  rw [e] at e1
  unfold paL at e1
  rw [List.foldl_append, List.foldl_cons] at e1
  have e2 : ∀ st : Option (Nat × Nat), paStep st 47 = none := by
    intro st
    cases st with
    | none => rfl
    | some q => simp [paStep]
  rw [e2, pa_none] at e1
  cases e1
/-- A prefix as a text. -/
def pfT (a n : Nat) : List UInt8 := adT a ++ [47] ++ decU n
theorem decU_inj {a b : Nat} (h : decU a = decU b) : a = b := by
  have := decVal_of a
  rw [h, decVal_of] at this
  omega
/-- A list that has a slash: what stands ahead of the first one, and behind it. -/
theorem slash_split {l l' m m' : List UInt8} (h : l ++ 47 :: m = l' ++ 47 :: m') (hl : (47 : UInt8) ∉ l) (hl' : (47 : UInt8) ∉ l') : l = l' ∧ m = m' := by
  induction l generalizing l' with
  | nil =>
    cases l' with
    | nil => exact ⟨rfl, by simpa using h⟩
    | cons x l' =>
      simp only [List.nil_append, List.cons_append, List.cons.injEq] at h
      exact absurd (by rw [← h.1]; simp) hl'
  | cons x l ih =>
    cases l' with
    | nil =>
      simp only [List.nil_append, List.cons_append, List.cons.injEq] at h
      exact absurd (by rw [h.1]; simp) hl
    | cons y l' =>
      simp only [List.cons_append, List.cons.injEq] at h
      obtain ⟨h1, h2⟩ := ih h.2 (fun hh => hl (by simp [hh])) (fun hh => hl' (by simp [hh]))
      exact ⟨by rw [h.1, h1], h2⟩
/-- What a text answers, read as a prefix. -/
def PfAns (ok? : Nat → Nat → Bool) (l : List UInt8) (a n : Nat) (ok : Bool) : Prop := (ok = true ∧ a < 4294967296 ∧ n ≤ 32 ∧ ok? a n = true ∧ pfT a n = l) ∨ (ok = false ∧ a = 0 ∧ n = 0 ∧ ∀ b m, b < 4294967296 → m ≤ 32 → ok? b m = true → pfT b m ≠ l)
theorem pfT_inj {a b n m : Nat} (ha : a < 4294967296) (hb : b < 4294967296) (h : pfT a n = pfT b m) : a = b ∧ n = m := by
  unfold pfT at h
  rw [List.append_assoc, List.append_assoc] at h
  obtain ⟨h1, h2⟩ := slash_split h (adT_noslash a ha) (adT_noslash b hb)
  exact ⟨adT_inj ha hb h1, decU_inj h2⟩
theorem PfAns.one {g : Nat → Nat → Bool} {l : List UInt8} {a n a' n' : Nat} {ok ok' : Bool} (h : PfAns g l a n ok) (h' : PfAns g l a' n' ok') : a = a' ∧ n = n' ∧ ok = ok' := by
  rcases h with ⟨rfl, h1, h2, h3, h4⟩ | ⟨rfl, rfl, rfl, h4⟩
  · rcases h' with ⟨rfl, g1, g2, g3, g4⟩ | ⟨rfl, rfl, rfl, g4⟩
    · obtain ⟨e1, e2⟩ := pfT_inj h1 g1 (h4.trans g4.symm)
      exact ⟨e1, e2, rfl⟩
    · exact absurd h4 (g4 a n h1 h2 h3)
  · rcases h' with ⟨rfl, g1, g2, g3, g4⟩ | ⟨rfl, rfl, rfl, g4⟩
    · exact absurd g4 (h4 a' n' g1 g2 g3)
    · exact ⟨rfl, rfl, rfl⟩
end Go.Proofs.YtnhkpnohadbcdaaDoor
