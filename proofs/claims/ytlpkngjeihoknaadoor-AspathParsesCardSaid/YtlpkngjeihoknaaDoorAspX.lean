/- Plain law of layer 3 (paths): the document's reading of a text, piece by piece, and the genuine one, are one. No conditions. -/
import Derived.Test.YtlpkngjeihoknaaDoorAspN
namespace Go.Proofs.YtlpkngjeihoknaaDoor
open Go.RowKit
set_option linter.unusedVariables false
set_option linter.unusedSimpArgs false
def isD (b : UInt8) : Bool := decide (48 ≤ b.toNat ∧ b.toNat ≤ 57)
/-- The number that digits say. -/
def intO (l : List UInt8) : Option Int := if 0 ≤ decVal l ∧ decVal l ≤ 4294967295 ∧ decI (decVal l) = l then some (decVal l) else none
theorem decVal_decI {v : Int} (h : 0 ≤ v) : decVal (decI v) = v := by
  obtain ⟨N, rfl⟩ := Int.eq_ofNat_of_zero_le h
  rw [decI_nat, decVal_of]
theorem intO_dec {v : Int} (h0 : 0 ≤ v) (h1 : v ≤ 4294967295) : intO (decI v) = some v := by
  unfold intO
  rw [decVal_decI h0, if_pos ⟨h0, h1, rfl⟩]
theorem intO_some {l : List UInt8} {v : Int} (h : intO l = some v) : 0 ≤ v ∧ v ≤ 4294967295 ∧ decI v = l := by
  unfold intO at h
  split at h
  · rename_i hc
    injection h with h
    subst h
    exact hc
  · cases h
theorem intO_yes {l : List UInt8} {v : Int} (h : IntAns l v true) : intO l = some v := by
  rcases h with ⟨_, h0, h1, h2⟩ | ⟨h, _⟩
  · rw [← h2]; exact intO_dec h0 h1
  · cases h
theorem intO_no {l : List UInt8} {v : Int} (h : IntAns l v false) : intO l = none ∧ v = 0 := by
  rcases h with ⟨h, _⟩ | ⟨_, hv, h⟩
  · cases h
  · refine ⟨?_, hv⟩
    unfold intO
    rw [if_neg]
    rintro ⟨h0, h1, h2⟩
    obtain ⟨N, hN⟩ := Int.eq_ofNat_of_zero_le h0
    refine h N (by omega) ?_
    rw [← decI_nat, ← hN]
    exact h2
theorem decI_ne {v : Int} (h : 0 ≤ v) : decI v ≠ [] := by
  obtain ⟨N, rfl⟩ := Int.eq_ofNat_of_zero_le h
  rw [decI_nat]
  exact decU_ne N
theorem decI_isD {v : Int} (h : 0 ≤ v) : ∀ b ∈ decI v, isD b = true := by
  obtain ⟨N, rfl⟩ := Int.eq_ofNat_of_zero_le h
  rw [decI_nat]
  intro b hb
  have := valI_digit (decU_digit N b hb)
  exact decide_eq_true (by omega)
theorem intO_nil : intO [] = none := by
  rcases hn : intO [] with _ | v
  · rfl
  · exact absurd (intO_some hn).2.2 (decI_ne (intO_some hn).1)
/-- Nothing, or no digit first. -/
def nonD (t : List UInt8) : Prop := ∀ b, t.head? = some b → isD b = false
theorem take_nonD {t : List UInt8} (h : nonD t) : t.takeWhile isD = [] ∧ t.dropWhile isD = t := by
  cases t with
  | nil => exact ⟨rfl, rfl⟩
  | cons b t =>
    have hb := h b rfl
    exact ⟨by rw [List.takeWhile_cons, hb]; rfl, by rw [List.dropWhile_cons, hb]; rfl⟩
theorem take_dec {v : Int} (h : 0 ≤ v) {t : List UInt8} (ht : nonD t) : (decI v ++ t).takeWhile isD = decI v ∧ (decI v ++ t).dropWhile isD = t := by
  obtain ⟨h1, h2⟩ := take_nonD ht
  exact ⟨by rw [List.takeWhile_append_of_pos (decI_isD h), h1, List.append_nil], by rw [List.dropWhile_append_of_pos (decI_isD h), h2]⟩
theorem take_drop (l : List UInt8) : l.takeWhile isD ++ l.dropWhile isD = l := List.takeWhile_append_dropWhile
theorem drop_len {l : List UInt8} {v : Int} (h : intO (l.takeWhile isD) = some v) : (l.dropWhile isD).length < l.length := by
  have h1 : l.takeWhile isD ≠ [] := fun e => by rw [e, intO_nil] at h; cases h
  have h2 := congrArg List.length (take_drop l)
  rw [List.length_append] at h2
  have := List.length_pos_iff.2 h1
  omega
/-- Numbers with commas between, and what stands behind them. -/
def numsP : Nat → List UInt8 → Option (List Int × List UInt8)
  | 0, _ => none
  | f + 1, l => match intO (l.takeWhile isD) with
    | none => none
    | some v => if (l.dropWhile isD).head? = some 44 then (numsP f (l.dropWhile isD).tail).map fun p => (v :: p.1, p.2) else some ([v], l.dropWhile isD)
/-- A piece, and what stands behind it. -/
def pieceP (l : List UInt8) : Option (Seg × List UInt8) :=
  if l.head? = some 123 then
    match numsP l.length l.tail with
    | some p => if p.2.head? = some 125 then some ((1, p.1), p.2.tail) else none
    | none => none
  else (intO (l.takeWhile isD)).map fun v => ((2, [v]), l.dropWhile isD)
def piecesP : Nat → Bool → List UInt8 → Option (List Seg)
  | 0, _, _ => none
  | f + 1, first, l =>
    if l = [] then some []
    else if first = false ∧ l.head? ≠ some 32 then none
    else match pieceP (if first = true then l else l.tail) with
      | none => none
      | some p => (piecesP f false p.2).map (p.1 :: ·)
theorem head_tail {l : List UInt8} {b : UInt8} (h : l.head? = some b) : l = b :: l.tail := by
  cases l with
  | nil => cases h
  | cons c l => simp at h; subst h; rfl
theorem numsP_sound : ∀ (f : Nat) (l : List UInt8) (zs : List Int) (r : List UInt8), numsP f l = some (zs, r) → l = Lib.join (zs.map decI) [44] ++ r ∧ zs ≠ [] ∧ (∀ y ∈ zs, 0 ≤ y ∧ y ≤ 4294967295) ∧ r.length < l.length
  | 0, l, zs, r, h => by cases h
  | f + 1, l, zs, r, h => by
    rw [numsP] at h
    rcases hi : intO (l.takeWhile isD) with _ | v
    · rw [hi] at h; cases h
    · rw [hi] at h
      simp only at h
      have hv := intO_some hi
      have hl := drop_len hi
      have htd := take_drop l
      split at h
      · rename_i hc
        obtain ⟨⟨zs', r'⟩, hn, he⟩ := Option.map_eq_some_iff.1 h
        simp only [Prod.mk.injEq] at he
        obtain ⟨rfl, rfl⟩ := he
        obtain ⟨h1, h2, h3, h4⟩ := numsP_sound f _ _ _ hn
        have hht := head_tail hc
        have hlen : (l.dropWhile isD).tail.length < (l.dropWhile isD).length := by
          have := congrArg List.length hht
          rw [List.length_cons] at this
          omega
        refine ⟨?_, by simp, fun y hy => ?_, by omega⟩
        · obtain ⟨y, ys, rfl⟩ := List.exists_cons_of_ne_nil h2
          rw [List.map_cons, List.map_cons, join_two, List.append_assoc, List.append_assoc, ← List.map_cons, ← h1, hv.2.2]
          rw [List.singleton_append, ← hht, htd]
        · rcases List.mem_cons.1 hy with rfl | hy
          · exact ⟨hv.1, hv.2.1⟩
          · exact h3 y hy
      · simp only [Option.some.injEq, Prod.mk.injEq] at h
        obtain ⟨rfl, rfl⟩ := h
        refine ⟨by rw [List.map_cons, List.map_nil, Lib.join_one, hv.2.2, htd], by simp, fun y hy => by simp at hy; subst hy; exact ⟨hv.1, hv.2.1⟩, hl⟩
theorem numsP_comp : ∀ (zs : List Int) (f : Nat) (r : List UInt8), zs ≠ [] → zs.length ≤ f → (∀ y ∈ zs, 0 ≤ y ∧ y ≤ 4294967295) → nonD r → r.head? ≠ some 44 → numsP f (Lib.join (zs.map decI) [44] ++ r) = some (zs, r)
  | [], _, _, h, _, _, _, _ => absurd rfl h
  | _ :: _, 0, _, _, h, _, _, _ => by simp at h
  | [y], f + 1, r, _, _, hw, hr, hc => by
    obtain ⟨h0, h1⟩ := hw y (by simp)
    obtain ⟨e1, e2⟩ := take_dec h0 hr
    rw [List.map_cons, List.map_nil, Lib.join_one, numsP, e1, intO_dec h0 h1]
    simp only
    rw [e2, if_neg hc]
  | y :: z :: zs, f + 1, r, _, hf, hw, hr, hc => by
    obtain ⟨h0, h1⟩ := hw y (by simp)
    have ih := numsP_comp (z :: zs) f r (by simp) (by simp at hf ⊢; omega) (fun x hx => hw x (by simp [hx])) hr hc
    have hn : nonD ([44] ++ Lib.join ((z :: zs).map decI) [44] ++ r) := by
      intro b hb
      simp at hb
      subst hb
      decide
    obtain ⟨e1, e2⟩ := take_dec h0 hn
    have e : Lib.join ((y :: z :: zs).map decI) [44] ++ r = decI y ++ ([44] ++ Lib.join ((z :: zs).map decI) [44] ++ r) := by
      rw [List.map_cons, List.map_cons, join_two, ← List.map_cons]
      simp
    rw [e, numsP, e1, intO_dec h0 h1]
    simp only
    rw [e2, if_pos (by simp)]
    simp only [List.cons_append, List.nil_append, List.tail_cons]
    rw [ih]
    rfl
/-- What a piece may be. -/
def okQ (x : Seg) : Prop := okP x ∧ (x.1 = 2 → ∃ y, x.2 = [y])
theorem segT_two (y : Int) : segT (2, [y]) = decI y := by
  unfold segT
  rw [if_neg (by simp)]
  exact Lib.join_one _ _
theorem segT_set (zs : List Int) : segT (1, zs) = 123 :: (Lib.join (zs.map decI) [44] ++ [125]) := by
  unfold segT
  rw [if_pos rfl]
  simp
theorem pieceP_sound {l : List UInt8} {x : Seg} {r : List UInt8} (h : pieceP l = some (x, r)) : l = segT x ++ r ∧ okQ x ∧ r.length < l.length := by
  unfold pieceP at h
  split at h
  · rename_i hc
    have hht := head_tail hc
    have hlen := congrArg List.length hht
    rw [List.length_cons] at hlen
    rcases hn : numsP l.length l.tail with _ | ⟨zs, t⟩
    · rw [hn] at h; cases h
    · rw [hn] at h
      simp only at h
      obtain ⟨h1, h2, h3, h4⟩ := numsP_sound _ _ _ _ hn
      split at h
      · rename_i hb
        simp only [Option.some.injEq, Prod.mk.injEq] at h
        obtain ⟨rfl, rfl⟩ := h
        have hbt := head_tail hb
        have hlen2 := congrArg List.length hbt
        rw [List.length_cons] at hlen2
        refine ⟨?_, ⟨⟨.inl rfl, h2, h3⟩, fun e => by simp at e⟩, by omega⟩
        rw [segT_set, hht, h1]
        conv => lhs; rw [hbt]
        simp
      · cases h
  · rcases hi : intO (l.takeWhile isD) with _ | v
    · rw [hi] at h; cases h
    · rw [hi] at h
      simp only [Option.map_some, Option.some.injEq, Prod.mk.injEq] at h
      obtain ⟨rfl, rfl⟩ := h
      have hv := intO_some hi
      refine ⟨by rw [segT_two, hv.2.2, take_drop], ⟨⟨.inr rfl, by simp, fun y hy => by simp at hy; subst hy; exact ⟨hv.1, hv.2.1⟩⟩, fun _ => ⟨v, rfl⟩⟩, drop_len hi⟩
theorem join_ge : ∀ zs : List Int, (∀ y ∈ zs, 0 ≤ y) → zs.length ≤ (Lib.join (zs.map decI) [44]).length
  | [], _ => by simp
  | [y], h => by
    rw [List.map_cons, List.map_nil, Lib.join_one]
    have := List.length_pos_iff.2 (decI_ne (h y (by simp)))
    simp; omega
  | y :: z :: zs, h => by
    have ih := join_ge (z :: zs) (fun x hx => h x (by simp [hx]))
    rw [List.map_cons, List.map_cons, join_two, ← List.map_cons]
    have := List.length_pos_iff.2 (decI_ne (h y (by simp)))
    simp only [List.length_append, List.length_cons, List.length_nil] at ih ⊢
    omega
theorem pieceP_comp {x : Seg} (h : okQ x) {r : List UInt8} (hr : nonD r) : pieceP (segT x ++ r) = some (x, r) := by
  obtain ⟨k, zs⟩ := x
  obtain ⟨⟨hk, hz, hw⟩, h2⟩ := h
  simp only at hk hz hw h2
  rcases hk with rfl | rfl
  · unfold pieceP
    rw [segT_set, if_pos (by simp)]
    have e : (123 :: (Lib.join (zs.map decI) [44] ++ [125]) ++ r : List UInt8).tail = Lib.join (zs.map decI) [44] ++ (125 :: r) := by simp
    have hn := numsP_comp zs (123 :: (Lib.join (zs.map decI) [44] ++ [125]) ++ r : List UInt8).length (125 :: r) hz (by
      have := join_ge zs (fun y hy => (hw y hy).1)
      simp; omega) hw (by intro b hb; simp at hb; subst hb; decide) (by simp)
    rw [e, hn]
    simp
  · obtain ⟨y, rfl⟩ := h2 rfl
    obtain ⟨h0, h1⟩ := hw y (by simp)
    obtain ⟨e1, e2⟩ := take_dec h0 hr
    have hne : (decI y ++ r).head? ≠ some 123 := by
      obtain ⟨b, bs, hb⟩ := List.exists_cons_of_ne_nil (decI_ne h0)
      have := decI_isD h0 b (by rw [hb]; simp)
      rw [hb]
      intro e
      simp at e
      subst e
      exact absurd this (by decide)
    unfold pieceP
    rw [segT_two, if_neg hne, e1, e2, intO_dec h0 h1]
    rfl
theorem piecesP_sound : ∀ (f : Nat) (first : Bool) (l : List UInt8) (P : List Seg), piecesP f first l = some P → (first = true → l = Lib.join (P.map segT) [32]) ∧ (first = false → l = Lib.joinTail [32] (P.map segT)) ∧ ∀ x ∈ P, okQ x
  | 0, _, _, _, h => by cases h
  | f + 1, first, l, P, h => by
    rw [piecesP] at h
    split at h
    · rename_i hl
      injection h with h
      subst h hl
      exact ⟨fun _ => by simp [Lib.join_nil], fun _ => by simp [Lib.joinTail], fun x hx => by cases hx⟩
    · split at h
      · cases h
      · rename_i hl hs
        rcases hp : pieceP (if first = true then l else l.tail) with _ | ⟨x, r⟩
        · rw [hp] at h; cases h
        · rw [hp] at h
          obtain ⟨Q, hq, rfl⟩ := Option.map_eq_some_iff.1 h
          obtain ⟨h1, h2, _⟩ := pieceP_sound hp
          obtain ⟨_, h4, h5⟩ := piecesP_sound f false r Q hq
          have h4 := h4 rfl
          refine ⟨fun e => ?_, fun e => ?_, fun y hy => ?_⟩
          · subst e
            rw [if_pos rfl] at h1
            rw [List.map_cons, Lib.join_cons, ← h4]
            exact h1
          · subst e
            rw [if_neg (by simp)] at h1
            have hh : l.head? = some 32 := by
              by_cases hh : l.head? = some 32
              · exact hh
              · exact absurd ⟨rfl, hh⟩ hs
            rw [head_tail hh, h1, h4]
            simp [Lib.joinTail]
          · rcases List.mem_cons.1 hy with rfl | hy
            · exact h2
            · exact h5 y hy
theorem tail_nonD (Q : List (List UInt8)) : nonD (Lib.joinTail [32] Q) := by
  intro b hb
  cases Q with
  | nil => simp [Lib.joinTail] at hb
  | cons q Q =>
    simp [Lib.joinTail] at hb
    subst hb
    decide
theorem segT_ne {x : Seg} (h : okP x) : segT x ≠ [] := by
  obtain ⟨k, zs⟩ := x
  obtain ⟨hk, hz, hw⟩ := h
  simp only at hk hz hw
  rcases hk with rfl | rfl
  · rw [segT_set]; simp
  · unfold segT
    rw [if_neg (by simp)]
    obtain ⟨y, ys, rfl⟩ := List.exists_cons_of_ne_nil hz
    rw [List.map_cons, Lib.join_cons]
    have := decI_ne (hw y (by simp)).1
    simp [this]
theorem piecesP_tail : ∀ (P : List Seg) (f : Nat), P.length < f → (∀ x ∈ P, okQ x) → piecesP f false (Lib.joinTail [32] (P.map segT)) = some P
  | _, 0, h, _ => by omega
  | [], f + 1, _, _ => by rw [piecesP, if_pos (by simp [Lib.joinTail])]
  | x :: P, f + 1, h, hx => by
    have e : Lib.joinTail [32] ((x :: P).map segT) = 32 :: (segT x ++ Lib.joinTail [32] (P.map segT)) := by simp [Lib.joinTail]
    rw [e, piecesP, if_neg (by simp), if_neg (by simp), if_neg (by simp), List.tail_cons, pieceP_comp (hx x (by simp)) (tail_nonD _)]
    simp only
    rw [piecesP_tail P f (by simp at h; omega) (fun y hy => hx y (by simp [hy]))]
    rfl
theorem piecesP_comp (P : List Seg) (f : Nat) (h : P.length < f) (hx : ∀ x ∈ P, okQ x) : piecesP f true (Lib.join (P.map segT) [32]) = some P := by
  cases P with
  | nil =>
    obtain ⟨g, rfl⟩ : ∃ g, f = g + 1 := ⟨f - 1, by simp at h; omega⟩
    rw [piecesP, if_pos (by simp [Lib.join_nil])]
  | cons x P =>
    obtain ⟨g, rfl⟩ : ∃ g, f = g + 1 := ⟨f - 1, by simp at h; omega⟩
    have hx0 := hx x (by simp)
    have hne : Lib.join ((x :: P).map segT) [32] ≠ [] := by
      rw [List.map_cons, Lib.join_cons]
      have := segT_ne hx0.1
      simp [this]
    rw [piecesP, if_neg hne, if_neg (by simp), if_pos rfl, List.map_cons, Lib.join_cons, pieceP_comp hx0 (tail_nonD _)]
    simp only
    rw [piecesP_tail P g (by simp at h; omega) (fun y hy => hx y (by simp [hy]))]
    rfl
/-- The document's answer. -/
def refP (l : List UInt8) : List Seg × Bool :=
  match piecesP (l.length + 1) true l with
  | some P => if rightA (normA P) = true then (normA P, true) else ([], false)
  | none => ([], false)
theorem join_app {a b : List (List UInt8)} (sep : List UInt8) (ha : a ≠ []) (hb : b ≠ []) : Lib.join (a ++ b) sep = Lib.join a sep ++ sep ++ Lib.join b sep := by
  obtain ⟨x, a, rfl⟩ := List.exists_cons_of_ne_nil ha
  obtain ⟨y, b, rfl⟩ := List.exists_cons_of_ne_nil hb
  rw [List.cons_append, Lib.join_cons, Lib.join_cons, Lib.join_cons]
  simp [Lib.joinTail]
theorem join_glue (a b : List (List UInt8)) (x y sep : List UInt8) : Lib.join (a ++ [x, y] ++ b) sep = Lib.join (a ++ [x ++ sep ++ y] ++ b) sep := by
  cases a with
  | nil =>
    simp only [List.nil_append, List.cons_append]
    rw [Lib.join_cons, Lib.join_cons]
    simp [Lib.joinTail]
  | cons z a =>
    simp only [List.cons_append]
    rw [Lib.join_cons, Lib.join_cons]
    simp [Lib.joinTail]
theorem segT_join {a b : List Int} (ha : a ≠ []) (hb : b ≠ []) : segT (2, a ++ b) = segT (2, a) ++ [32] ++ segT (2, b) := by
  unfold segT
  simp only [if_neg (show ¬ ((2 : Int) = 1) by decide)]
  rw [List.map_append, join_app _ (by simp [ha]) (by simp [hb])]
theorem text_step (o l : List Seg) (s : Seg) (ho : ∀ x ∈ o, okP x) (hs : okP s) : Lib.join ((normStep o s ++ l).map segT) [32] = Lib.join ((o ++ [s] ++ l).map segT) [32] := by
  rcases List.eq_nil_or_concat o with rfl | ⟨o', x, rfl⟩
  · rw [normStep_nil]; rfl
  · rw [List.concat_eq_append] at ho ⊢
    by_cases h1 : s.1 = 2
    · by_cases h2 : x.1 = 2
      · rw [normStep_join h2 h1]
        obtain ⟨k, a⟩ := x
        obtain ⟨k', b⟩ := s
        simp only at h1 h2
        subst h1 h2
        have e1 : segT (2, a ++ b) = segT (2, a) ++ [32] ++ segT (2, b) := segT_join (ho (2, a) (by simp)).2.1 hs.2.1
        have := join_glue (o'.map segT) (l.map segT) (segT (2, a)) (segT (2, b)) [32]
        rw [← e1] at this
        simpa using this.symm
      · rw [normStep_last h2]
    · rw [normStep_kind h1]
theorem text_fold : ∀ (l o : List Seg), (∀ x ∈ o, okP x) → (∀ x ∈ l, okP x) → Lib.join ((l.foldl normStep o).map segT) [32] = Lib.join ((o ++ l).map segT) [32]
  | [], o, _, _ => by simp
  | s :: l, o, ho, hl => by
    rw [List.foldl_cons, text_fold l (normStep o s) (okP_step ho (hl s (by simp))) (fun x hx => hl x (by simp [hx])), text_step o l s ho (hl s (by simp))]
    simp
/-- Pieces as one, or each for itself: the text is the same. -/
theorem text_pieces {P : List Seg} (h : ∀ x ∈ P, okP x) : Lib.join ((normA P).map segT) [32] = Lib.join (P.map segT) [32] := by
  have := text_fold P [] (fun x hx => by cases hx) h
  simpa [normA] using this
def splS (x : Seg) : List Seg := if x.1 = 1 then [x] else x.2.map fun y => (2, [y])
theorem splS_ok {x : Seg} (h : okP x) : (∀ z ∈ splS x, okQ z) ∧ splS x ≠ [] ∧ Lib.join ((splS x).map segT) [32] = segT x := by
  obtain ⟨k, zs⟩ := x
  obtain ⟨hk, hz, hw⟩ := h
  simp only at hk hz hw
  rcases hk with rfl | rfl
  · unfold splS
    rw [if_pos rfl]
    exact ⟨fun z hz' => by simp at hz'; subst hz'; exact ⟨⟨.inl rfl, hz, hw⟩, fun e => by simp at e⟩, by simp, by rw [List.map_cons, List.map_nil, Lib.join_one]⟩
  · unfold splS
    rw [if_neg (by simp)]
    refine ⟨fun z hz' => ?_, by simp [hz], ?_⟩
    · obtain ⟨y, hy, rfl⟩ := List.mem_map.1 hz'
      exact ⟨⟨.inr rfl, by simp, fun u hu => by simp at hu; subst hu; exact hw u hy⟩, fun _ => ⟨y, rfl⟩⟩
    · rw [List.map_map]
      have e : (segT ∘ fun y => ((2, [y]) : Seg)) = decI := by funext y; exact segT_two y
      rw [e]
      unfold segT
      rw [if_neg (by simp)]
theorem spl_text : ∀ (l : List Seg), (∀ x ∈ l, okP x) → Lib.join ((l.flatMap splS).map segT) [32] = Lib.join (l.map segT) [32]
  | [], _ => rfl
  | [x], h => by
    rw [List.flatMap_cons, List.flatMap_nil, List.append_nil, (splS_ok (h x (by simp))).2.2, List.map_cons, List.map_nil, Lib.join_one]
  | x :: y :: l, h => by
    have ih := spl_text (y :: l) (fun z hz => h z (by simp [hz]))
    obtain ⟨_, h2, h3⟩ := splS_ok (h x (by simp))
    have hy := (splS_ok (h y (by simp))).2.1
    rw [List.flatMap_cons, List.map_append, join_app _ (by simp [h2]) (by rw [List.flatMap_cons]; simp [hy]), h3, ih, List.map_cons (a := x), List.map_cons (a := y), join_two]
    simp [List.append_assoc]
theorem addOut_wf {out : List Seg} {within : Bool} {kind v : Int} (h : WF out) (hv : 0 ≤ v ∧ v ≤ 4294967295) : WF (addOut out within kind v) := by
  rcases List.eq_nil_or_concat out with rfl | ⟨o, x, rfl⟩
  · rw [addOut_nil]
    intro z hz y hy
    simp at hz; subst hz
    simp at hy; subst hy
    exact hv
  · rw [List.concat_eq_append] at h ⊢
    have happ : WF (o ++ [x] ++ [(kind, [v])]) := WF_app.2 ⟨h, fun z hz y hy => by simp at hz; subst hz; simp at hy; subst hy; exact hv⟩
    by_cases h1 : x.1 = kind
    · by_cases h2 : kind = 2 ∨ within = true
      · rw [addOut_join h1 h2]
        have h' := WF_app.1 h
        refine WF_app.2 ⟨h'.1, fun z hz y hy => ?_⟩
        simp at hz; subst hz
        rcases List.mem_append.1 hy with hy | hy
        · exact h'.2 x (by simp) y hy
        · simp at hy; subst hy; exact hv
      · rw [addOut_no h2]; exact happ
    · rw [addOut_kind h1]; exact happ
theorem addPs_wf {st : Ps} (h : WF st.out) (kind : Int) : WF (addPs st kind).out := by
  unfold addPs
  exact addOut_wf h (by rw [IntKind.wrap_u32]; omega)
theorem stepP_wf {st : Ps} (h : WF st.out) (was c : Int) : WF (stepP st was c).out := by
  unfold stepP
  repeat' split
  all_goals first | exact h | exact addPs_wf h _
theorem runP_wf (s : ByteArray) : ∀ (f pos : Nat) (st : Ps) (was : Int), WF st.out → WF (runP s f pos st was).1.out
  | 0, pos, st, was, h => h
  | f + 1, pos, st, was, h => by
    rw [runP]
    split
    · exact runP_wf s f _ _ _ (stepP_wf h _ _)
    · exact h
theorem parse_wf (s : ByteArray) : WF (parseOut s) := by
  unfold parseOut finP
  have h := runP_wf s s.size 0 ⟨[], 0, false⟩ 32 (fun x hx => by cases hx)
  split
  · exact addPs_wf h _
  · exact h
theorem len_pieces : ∀ (P : List Seg), (∀ x ∈ P, okP x) → P.length ≤ (Lib.join (P.map segT) [32]).length
  | [], _ => by simp
  | [x], h => by
    rw [List.map_cons, List.map_nil, Lib.join_one]
    have := List.length_pos_iff.2 (segT_ne (h x (by simp)))
    simp; omega
  | x :: y :: P, h => by
    have ih := len_pieces (y :: P) (fun z hz => h z (by simp [hz]))
    rw [List.map_cons, List.map_cons, join_two, ← List.map_cons]
    have := List.length_pos_iff.2 (segT_ne (h x (by simp)))
    simp only [List.length_append, List.length_cons, List.length_nil] at ih ⊢
    omega
/-- Both say the same. -/
theorem refP_is (s : ByteArray) : refP s.data.toList = parseR s := by
  unfold refP
  rcases hp : piecesP (s.data.toList.length + 1) true s.data.toList with _ | P
  · have hne : textA (parseOut s) ≠ s.data.toList := by
      intro e
      unfold textA at e
      split at e
      · rename_i hr
        have hw := parse_wf s
        have hok := okP_norm (okP_of hr hw)
        have hQ : ∀ x ∈ (normA (parseOut s)).flatMap splS, okQ x := by
          intro x hx
          obtain ⟨y, hy, hxy⟩ := List.mem_flatMap.1 hx
          exact (splS_ok (hok y hy)).1 x hxy
        rw [← spl_text _ hok] at e
        have hl := len_pieces _ (fun x hx => (hQ x hx).1)
        rw [e] at hl
        have := piecesP_comp _ (s.data.toList.length + 1) (by omega) hQ
        rw [e, hp] at this
        cases this
      · rw [← e] at hp
        cases hp
    unfold parseR
    rw [if_neg hne]
  · obtain ⟨h1, _, h3⟩ := piecesP_sound _ _ _ _ hp
    have h1 := h1 rfl
    have hok : ∀ x ∈ P, okP x := fun x hx => (h3 x hx).1
    have hs : s = ⟨(Lib.join (P.map segT) [32]).toArray⟩ := bytesExt h1
    have hpo : parseOut s = normA P := by rw [hs]; exact parse_text P hok
    simp only
    unfold parseR
    rw [hpo]
    by_cases hr : rightA (normA P) = true
    · rw [if_pos hr, if_pos]
      unfold textA
      rw [if_pos hr, norm_norm, text_pieces hok, ← h1]
    · rw [if_neg hr, if_neg]
      unfold textA
      rw [if_neg hr]
      intro e
      have hl := len_pieces P hok
      rw [← h1, ← e] at hl
      have : P = [] := List.eq_nil_of_length_eq_zero (by simpa using hl)
      subst this
      exact hr (by decide)
end Go.Proofs.YtlpkngjeihoknaaDoor
