/- The plain law of layer 3 (paths): what is written is read. No conditions. -/
import Derived.Laws.RangeString
import Derived.Test.YtlpkngjeihoknaaDoorAspK
namespace Go.Proofs.YtlpkngjeihoknaaDoor
open Go.RowKit
set_option linter.unusedVariables false
set_option linter.unusedSimpArgs false
def stepB3 (r : Ps × Int) (b : UInt8) : Ps × Int := (stepP r.1 r.2 (b.toNat : Int), (b.toNat : Int))
def runPL (l : List UInt8) (r : Ps × Int) : Ps × Int := l.foldl stepB3 r
theorem runPL_app (a b : List UInt8) (r : Ps × Int) : runPL (a ++ b) r = runPL b (runPL a r) := by unfold runPL; rw [List.foldl_append]
theorem runPL_cons (b : UInt8) (l : List UInt8) (r : Ps × Int) : runPL (b :: l) r = runPL l (stepB3 r b) := rfl
theorem runPL_one (b : UInt8) (r : Ps × Int) : runPL [b] r = stepB3 r b := rfl
theorem runP_ascii (s : ByteArray) (h : ∀ b ∈ s.data.toList, b.toNat < 128) : ∀ (f pos : Nat) (st : Ps) (was : Int), s.size ≤ pos + f → runP s f pos st was = runPL (s.data.toList.drop pos) (st, was)
  | 0, pos, st, was, hf => by
    rw [List.drop_eq_nil_of_le (by show s.size ≤ pos; omega)]; rfl
  | f + 1, pos, st, was, hf => by
    by_cases hlt : pos < s.size
    · have hl : pos < s.data.toList.length := hlt
      have hb : (s[pos]'hlt).toNat < 128 := h _ (List.getElem_mem hl)
      rw [runP, if_pos hlt, decode_ascii s pos hlt hb, runP_ascii s h f (pos + 1) _ _ (by omega), List.drop_eq_getElem_cons hl, runPL_cons]
      rfl
    · rw [List.drop_eq_nil_of_le (by show s.size ≤ pos; omega), runP_end s _ pos st was hlt]; rfl
theorem valI_digit {c : UInt8} (h : valI (c.toNat : Int) ≤ 9) : 48 ≤ (c.toNat : Int) ∧ (c.toNat : Int) ≤ 57 := by
  have h1 := valI_nine h
  have h2 := valI_range (c.toNat : Int)
  omega
theorem runPL_digits (l : List UInt8) (hd : ∀ c ∈ l, valI (c.toNat : Int) ≤ 9) (out : List Seg) (within : Bool) : ∀ (x was : Int), 0 ≤ x → l.foldl (fun n c => 10 * n + ((c.toNat : Int) - 48)) x ≤ 4294967295 → ∃ d : Int, runPL l (⟨out, x, within⟩, was) = (⟨out, l.foldl (fun n c => 10 * n + ((c.toNat : Int) - 48)) x, within⟩, d) ∧ (l ≠ [] → 48 ≤ d ∧ d ≤ 57) := by
  induction l with
  | nil => intro x was _ _; exact ⟨was, rfl, fun h => absurd rfl h⟩
  | cons c l ih =>
    intro x was hx hv
    have hc := valI_digit (hd c (by simp))
    rw [List.foldl_cons] at hv
    have hge := fold_ge l (10 * x + ((c.toNat : Int) - 48)) (by omega) (fun b hb => hd b (by simp [hb]))
    have e : stepB3 (⟨out, x, within⟩, was) c = (⟨out, 10 * x + ((c.toNat : Int) - 48), within⟩, (c.toNat : Int)) := by
      unfold stepB3 stepP
      simp only
      rw [if_pos hc, show min (10 * x + ((c.toNat : Int) - 48)) 1099511627776 = 10 * x + ((c.toNat : Int) - 48) by omega]
    obtain ⟨d, h1, h2⟩ := ih (fun b hb => hd b (by simp [hb])) (10 * x + ((c.toNat : Int) - 48)) (c.toNat : Int) (by omega) hv
    refine ⟨d, by rw [runPL_cons, e, h1, List.foldl_cons], fun _ => ?_⟩
    cases l with
    | nil =>
      have h3 : (⟨out, 10 * x + ((c.toNat : Int) - 48), within⟩, (c.toNat : Int)) = ((⟨out, 10 * x + ((c.toNat : Int) - 48), within⟩ : Ps), d) := h1
      injection h3 with _ h3
      omega
    | cons => exact h2 (by simp)
theorem run_num {y : Int} (h0 : 0 ≤ y) (h1 : y ≤ 4294967295) (out : List Seg) (within : Bool) (was : Int) : ∃ d : Int, runPL (decI y) (⟨out, 0, within⟩, was) = (⟨out, y, within⟩, d) ∧ 48 ≤ d ∧ d ≤ 57 := by
  obtain ⟨N, rfl⟩ := Int.eq_ofNat_of_zero_le h0
  rw [decI_nat]
  have hv := decVal_of N
  obtain ⟨d, h2, h3⟩ := runPL_digits (decU N) (decU_digit N) out within 0 was (by omega) (by show decVal (decU N) ≤ _; omega)
  refine ⟨d, ?_, h3 (decU_ne N)⟩
  rw [h2]
  show ((⟨out, decVal (decU N), within⟩ : Ps), d) = _
  rw [hv]
theorem u32_id {y : Int} (h0 : 0 ≤ y) (h1 : y ≤ 4294967295) : IntKind.u32.wrap y = y := by
  rw [IntKind.wrap_u32]; omega
theorem step_space {out : List Seg} {y : Int} {within : Bool} {d : Int} (h0 : 0 ≤ y) (h1 : y ≤ 4294967295) (hd : d ≠ 125) : stepB3 (⟨out, y, within⟩, d) 32 = (⟨addOut out within 2 y, 0, within⟩, 32) := by
  unfold stepB3 stepP addPs
  have e : ((32 : UInt8).toNat : Int) = 32 := rfl
  simp only [e]
  rw [if_neg (by omega), if_neg (by omega), if_pos (by simp [hd]), u32_id h0 h1]
theorem step_comma {out : List Seg} {y : Int} {within : Bool} {d : Int} (h0 : 0 ≤ y) (h1 : y ≤ 4294967295) : stepB3 (⟨out, y, within⟩, d) 44 = (⟨addOut out within 1 y, 0, true⟩, 44) := by
  unfold stepB3 stepP addPs
  have e : ((44 : UInt8).toNat : Int) = 44 := rfl
  simp only [e]
  rw [if_neg (by omega), if_pos (by simp), u32_id h0 h1]
  rfl
theorem step_close {out : List Seg} {y : Int} {within : Bool} {d : Int} (h0 : 0 ≤ y) (h1 : y ≤ 4294967295) : stepB3 (⟨out, y, within⟩, d) 125 = (⟨addOut out within 1 y, 0, false⟩, 125) := by
  unfold stepB3 stepP addPs
  have e : ((125 : UInt8).toNat : Int) = 125 := rfl
  simp only [e]
  rw [if_neg (by omega), if_pos (by simp), u32_id h0 h1]
  rfl
theorem step_open {out : List Seg} {within : Bool} {d : Int} : stepB3 (⟨out, 0, within⟩, d) 123 = (⟨out, 0, within⟩, 123) := by
  unfold stepB3 stepP
  have e : ((123 : UInt8).toNat : Int) = 123 := rfl
  simp only [e]
  rw [if_neg (by omega), if_neg (by omega), if_neg (by omega)]
theorem step_after {out : List Seg} {within : Bool} : stepB3 (⟨out, 0, within⟩, 125) 32 = (⟨out, 0, within⟩, 32) := by
  unfold stepB3 stepP
  have e : ((32 : UInt8).toNat : Int) = 32 := rfl
  simp only [e]
  rw [if_neg (by omega), if_neg (by omega), if_neg (by omega)]
theorem join_two (x y : List UInt8) (r : List (List UInt8)) (sep : List UInt8) : Lib.join (x :: y :: r) sep = x ++ (sep ++ Lib.join (y :: r) sep) := by
  rw [Lib.join_cons, Lib.join_cons]
  simp [Lib.joinTail]
/-- A sequence's numbers, one behind the other. -/
theorem run_seq : ∀ (zs : List Int) (out : List Seg) (was : Int), zs ≠ [] → (∀ y ∈ zs, 0 ≤ y ∧ y ≤ 4294967295) → ∃ (o' : List Seg) (y d : Int), runPL (Lib.join (zs.map decI) [32]) (⟨out, 0, false⟩, was) = (⟨o', y, false⟩, d) ∧ 48 ≤ d ∧ d ≤ 57 ∧ 0 ≤ y ∧ y ≤ 4294967295 ∧ addOut o' false 2 y = zs.foldl (fun o z => addOut o false 2 z) out
  | [], out, was, h, _ => absurd rfl h
  | [y], out, was, _, hw => by
    obtain ⟨h0, h1⟩ := hw y (by simp)
    obtain ⟨d, h2, h3, h4⟩ := run_num h0 h1 out false was
    refine ⟨out, y, d, ?_, h3, h4, h0, h1, rfl⟩
    rw [List.map_cons, List.map_nil, Lib.join_one]
    exact h2
  | y :: z :: r, out, was, _, hw => by
    obtain ⟨h0, h1⟩ := hw y (by simp)
    obtain ⟨d, h2, h3, h4⟩ := run_num h0 h1 out false was
    obtain ⟨o', y', d', g1, g2, g3, g4, g5, g6⟩ := run_seq (z :: r) (addOut out false 2 y) 32 (by simp) (fun x hx => hw x (by simp [hx]))
    refine ⟨o', y', d', ?_, g2, g3, g4, g5, ?_⟩
    · rw [List.map_cons, List.map_cons, join_two, runPL_app, h2, runPL_app, runPL_one, step_space h0 h1 (by omega)]
      exact g1
    · rw [g6]; rfl
theorem seq_all : ∀ (zs : List Int) (o : List Seg) (ys : List Int), zs.foldl (fun o z => addOut o false 2 z) (o ++ [(2, ys)]) = o ++ [(2, ys ++ zs)]
  | [], o, ys => by simp
  | z :: r, o, ys => by
    rw [List.foldl_cons, addOut_join rfl (.inl rfl), seq_all r o (ys ++ [z]), List.append_assoc]
    rfl
theorem seq_norm (zs : List Int) (o : List Seg) (h : zs ≠ []) : zs.foldl (fun o z => addOut o false 2 z) o = normStep o (2, zs) := by
  obtain ⟨z, r, rfl⟩ := List.exists_cons_of_ne_nil h
  rw [List.foldl_cons]
  rcases List.eq_nil_or_concat o with rfl | ⟨o', x, rfl⟩
  · rw [addOut_nil, normStep_nil]
    exact seq_all r [] [z]
  · rw [List.concat_eq_append]
    by_cases hx : x.1 = 2
    · obtain ⟨k, ys⟩ := x
      simp only at hx
      subst hx
      rw [addOut_join rfl (.inl rfl), normStep_join rfl rfl]
      simp only
      rw [seq_all r o' (ys ++ [z]), List.append_assoc]
      rfl
    · rw [addOut_kind hx, normStep_last hx]
      exact seq_all r (o' ++ [x]) [z]
/-- A set's numbers behind the first. -/
theorem run_set : ∀ (zs : List Int) (o : List Seg) (ys : List Int) (was : Int), zs ≠ [] → (∀ y ∈ zs, 0 ≤ y ∧ y ≤ 4294967295) → runPL (Lib.join (zs.map decI) [44] ++ [125]) (⟨o ++ [(1, ys)], 0, true⟩, was) = (⟨o ++ [(1, ys ++ zs)], 0, false⟩, 125)
  | [], o, ys, was, h, _ => absurd rfl h
  | [y], o, ys, was, _, hw => by
    obtain ⟨h0, h1⟩ := hw y (by simp)
    obtain ⟨d, h2, h3, h4⟩ := run_num h0 h1 (o ++ [(1, ys)]) true was
    rw [List.map_cons, List.map_nil, Lib.join_one, runPL_app, h2, runPL_one, step_close h0 h1, addOut_join rfl (.inr rfl)]
  | y :: z :: r, o, ys, was, _, hw => by
    obtain ⟨h0, h1⟩ := hw y (by simp)
    obtain ⟨d, h2, h3, h4⟩ := run_num h0 h1 (o ++ [(1, ys)]) true was
    have ih := run_set (z :: r) o (ys ++ [y]) 44 (by simp) (fun x hx => hw x (by simp [hx]))
    rw [List.map_cons, List.map_cons, join_two, List.append_assoc, List.append_assoc, runPL_app, h2, runPL_app, runPL_one, step_comma h0 h1, addOut_join rfl (.inr rfl)]
    rw [List.map_cons] at ih
    rw [ih, List.append_assoc]
    rfl
theorem run_braces (zs : List Int) (o : List Seg) (was : Int) (h : zs ≠ []) (hw : ∀ y ∈ zs, 0 ≤ y ∧ y ≤ 4294967295) : runPL ([123] ++ Lib.join (zs.map decI) [44] ++ [125]) (⟨o, 0, false⟩, was) = (⟨o ++ [(1, zs)], 0, false⟩, 125) := by
  rw [List.append_assoc, runPL_app, runPL_one, step_open]
  have first : ∀ y : Int, addOut o false 1 y = o ++ [(1, [y])] := by
    intro y
    rcases List.eq_nil_or_concat o with rfl | ⟨o', x, rfl⟩
    · rw [addOut_nil]; rfl
    · rw [List.concat_eq_append, addOut_no (by simp)]
  match zs, h with
  | [y], _ =>
    obtain ⟨h0, h1⟩ := hw y (by simp)
    obtain ⟨d, h2, h3, h4⟩ := run_num h0 h1 o false 123
    rw [List.map_cons, List.map_nil, Lib.join_one, runPL_app, h2, runPL_one, step_close h0 h1, first]
  | y :: z :: r, _ =>
    obtain ⟨h0, h1⟩ := hw y (by simp)
    obtain ⟨d, h2, h3, h4⟩ := run_num h0 h1 o false 123
    have ih := run_set (z :: r) o [y] 44 (by simp) (fun x hx => hw x (by simp [hx]))
    rw [List.map_cons, List.map_cons, join_two, List.append_assoc, List.append_assoc, runPL_app, h2, runPL_app, runPL_one, step_comma h0 h1, first]
    rw [List.map_cons] at ih
    rw [ih]
    rfl
def okP (x : Seg) : Prop := (x.1 = 1 ∨ x.1 = 2) ∧ x.2 ≠ [] ∧ ∀ y ∈ x.2, 0 ≤ y ∧ y ≤ 4294967295
theorem fin_digit {o : List Seg} {y d : Int} (h0 : 0 ≤ y) (h1 : y ≤ 4294967295) (hd : 48 ≤ d) (hd2 : d ≤ 57) : (finP (⟨o, y, false⟩, d)).out = addOut o false 2 y := by
  unfold finP addPs
  simp only
  rw [if_pos ⟨hd, hd2⟩, u32_id h0 h1]
theorem fin_close {o : List Seg} {d : Int} (hd : ¬ (48 ≤ d ∧ d ≤ 57)) : (finP (⟨o, 0, false⟩, d)).out = o := by
  unfold finP
  simp only
  rw [if_neg hd]
/-- The parts of a text, one behind the other. -/
theorem run_parts : ∀ (m : List Seg) (o : List Seg), (∀ x ∈ m, okP x) → (finP (runPL (Lib.join (m.map segT) [32]) (⟨o, 0, false⟩, 32))).out = m.foldl normStep o
  | [], o, _ => fin_close (by omega)
  | [x], o, h => by
    obtain ⟨k, zs⟩ := x
    obtain ⟨hk, hz, hw⟩ := h (k, zs) (by simp)
    simp only at hk hz hw
    rw [List.map_cons, List.map_nil, Lib.join_one, List.foldl_cons, List.foldl_nil]
    rcases hk with rfl | rfl
    · unfold segT
      rw [if_pos rfl, run_braces zs o 32 hz hw, fin_close (by omega), normStep_kind (by simp)]
    · obtain ⟨o', y, d, g1, g2, g3, g4, g5, g6⟩ := run_seq zs o 32 hz hw
      unfold segT
      rw [if_neg (by simp)]
      simp only
      rw [g1, fin_digit g4 g5 g2 g3, g6, seq_norm zs o hz]
  | x :: x' :: r, o, h => by
    obtain ⟨k, zs⟩ := x
    obtain ⟨hk, hz, hw⟩ := h (k, zs) (by simp)
    simp only at hk hz hw
    have ih := run_parts (x' :: r) (normStep o (k, zs)) (fun y hy => h y (by simp [hy]))
    rw [List.map_cons, List.map_cons, join_two, runPL_app, runPL_app, runPL_one, List.foldl_cons]
    rw [List.map_cons] at ih
    rcases hk with rfl | rfl
    · have e : segT ((1, zs) : Seg) = [123] ++ Lib.join (zs.map decI) [44] ++ [125] := by unfold segT; rw [if_pos rfl]
      rw [e, run_braces zs o 32 hz hw, step_after, ← ih, normStep_kind (by simp)]
    · obtain ⟨o', y, d, g1, g2, g3, g4, g5, g6⟩ := run_seq zs o 32 hz hw
      have e : segT ((2, zs) : Seg) = Lib.join (zs.map decI) [32] := by unfold segT; rw [if_neg (by simp)]
      rw [e, g1, step_space g4 g5 (by omega), g6, seq_norm zs o hz, ← ih]
theorem join_all {p : UInt8 → Prop} (xs : List (List UInt8)) (sep : List UInt8) (h : ∀ x ∈ xs, ∀ b ∈ x, p b) (hs : ∀ b ∈ sep, p b) : ∀ b ∈ Lib.join xs sep, p b := by
  rcases List.eq_nil_or_concat xs with rfl | ⟨o, x, rfl⟩
  · intro b hb; simp [Lib.join_nil] at hb
  · rw [List.concat_eq_append] at h ⊢
    have ih := join_all o sep (fun y hy => h y (by simp [hy])) hs
    rw [join_snoc]
    split
    · exact h x (by simp)
    · intro b hb
      rcases List.mem_append.1 hb with hb | hb
      · rcases List.mem_append.1 hb with hb | hb
        · exact ih b hb
        · exact hs b hb
      · exact h x (by simp) b hb
termination_by xs.length
decreasing_by all_goals (subst_vars; simp)
theorem decI_ascii {y : Int} (h0 : 0 ≤ y) : ∀ b ∈ decI y, b.toNat < 128 := by
  obtain ⟨N, rfl⟩ := Int.eq_ofNat_of_zero_le h0
  rw [decI_nat]
  intro b hb
  have := valI_digit (decU_digit N b hb)
  omega
theorem segT_ascii {x : Seg} (h : okP x) : ∀ b ∈ segT x, b.toNat < 128 := by
  have hj : ∀ sep : List UInt8, (∀ b ∈ sep, b.toNat < 128) → ∀ b ∈ Lib.join (x.2.map decI) sep, b.toNat < 128 := fun sep hs => join_all _ sep (fun z hz => by
    obtain ⟨y, hy, rfl⟩ := List.mem_map.1 hz
    exact decI_ascii (h.2.2 y hy).1) hs
  unfold segT
  split
  · intro b hb
    rcases List.mem_append.1 hb with hb | hb
    · rcases List.mem_append.1 hb with hb | hb
      · simp at hb; subst hb; decide
      · exact hj [44] (by intro b hb; simp at hb; subst hb; decide) b hb
    · simp at hb; subst hb; decide
  · exact hj [32] (by intro b hb; simp at hb; subst hb; decide)
/-- What is written is read, its sequences as one. -/
theorem parse_text (m : List Seg) (h : ∀ x ∈ m, okP x) : parseOut ⟨(Lib.join (m.map segT) [32]).toArray⟩ = normA m := by
  have ha : ∀ b ∈ (⟨(Lib.join (m.map segT) [32]).toArray⟩ : ByteArray).data.toList, b.toNat < 128 := by
    show ∀ b ∈ Lib.join (m.map segT) [32], _
    exact join_all _ _ (fun z hz => by
      obtain ⟨x, hx, rfl⟩ := List.mem_map.1 hz
      exact segT_ascii (h x hx)) (by intro b hb; simp at hb; subst hb; decide)
  unfold parseOut
  rw [runP_ascii _ ha _ _ _ _ (by omega), List.drop_zero]
  exact run_parts m [] h
/-- No two sequences follow one another. -/
def NoAdj : List Seg → Prop
  | [] => True
  | [_] => True
  | x :: y :: r => ¬ (x.1 = 2 ∧ y.1 = 2) ∧ NoAdj (y :: r)
theorem NoAdj_snoc : ∀ (o : List Seg) (x s : Seg), NoAdj (o ++ [x]) → ¬ (x.1 = 2 ∧ s.1 = 2) → NoAdj (o ++ [x] ++ [s])
  | [], x, s, _, h => ⟨h, trivial⟩
  | [a], x, s, h1, h => ⟨h1.1, h, trivial⟩
  | a :: b :: r, x, s, h1, h => ⟨h1.1, NoAdj_snoc (b :: r) x s h1.2 h⟩
theorem NoAdj_last : ∀ (o : List Seg) (x x' : Seg), NoAdj (o ++ [x]) → x.1 = x'.1 → NoAdj (o ++ [x'])
  | [], x, x', _, _ => trivial
  | [a], x, x', h, e => ⟨by rw [← e]; exact h.1, trivial⟩
  | a :: b :: r, x, x', h, e => ⟨h.1, NoAdj_last (b :: r) x x' h.2 e⟩
theorem NoAdj_step (o : List Seg) (s : Seg) (h : NoAdj o) : NoAdj (normStep o s) := by
  rcases List.eq_nil_or_concat o with rfl | ⟨o', x, rfl⟩
  · rw [normStep_nil]; trivial
  · rw [List.concat_eq_append] at h ⊢
    by_cases hs : s.1 = 2
    · by_cases hx : x.1 = 2
      · rw [normStep_join hx hs]
        exact NoAdj_last o' x _ h rfl
      · rw [normStep_last hx]
        exact NoAdj_snoc o' x s h (fun e => hx e.1)
    · rw [normStep_kind hs]
      exact NoAdj_snoc o' x s h (fun e => hs e.2)
theorem NoAdj_fold : ∀ (l o : List Seg), NoAdj o → NoAdj (l.foldl normStep o)
  | [], o, h => h
  | x :: l, o, h => NoAdj_fold l _ (NoAdj_step o x h)
theorem NoAdj_norm (l : List Seg) : NoAdj (normA l) := NoAdj_fold l [] trivial
theorem NoAdj_mid : ∀ (o : List Seg) (x s : Seg) (r : List Seg), NoAdj (o ++ x :: s :: r) → ¬ (x.1 = 2 ∧ s.1 = 2)
  | [], x, s, r, h => h.1
  | [a], x, s, r, h => h.2.1
  | a :: b :: o, x, s, r, h => NoAdj_mid (b :: o) x s r h.2
theorem fold_noadj : ∀ (l o : List Seg), NoAdj (o ++ l) → l.foldl normStep o = o ++ l
  | [], o, _ => by simp
  | s :: l, o, h => by
    have e : normStep o s = o ++ [s] := by
      rcases List.eq_nil_or_concat o with rfl | ⟨o', x, rfl⟩
      · rw [normStep_nil]; rfl
      · rw [List.concat_eq_append] at h ⊢
        have := NoAdj_mid o' x s l (by simpa using h)
        by_cases hs : s.1 = 2
        · exact normStep_last (fun hx => this ⟨hx, hs⟩)
        · exact normStep_kind hs
    rw [List.foldl_cons, e, fold_noadj l (o ++ [s]) (by simpa using h)]
    simp
theorem norm_norm (l : List Seg) : normA (normA l) = normA l := by
  have := fold_noadj (normA l) [] (NoAdj_norm l)
  simpa [normA] using this
theorem okP_step {o : List Seg} {s : Seg} (h : ∀ x ∈ o, okP x) (hs : okP s) : ∀ x ∈ normStep o s, okP x := by
  rcases List.eq_nil_or_concat o with rfl | ⟨o', x, rfl⟩
  · rw [normStep_nil]; intro z hz; simp at hz; subst hz; exact hs
  · rw [List.concat_eq_append] at h ⊢
    have hx := h x (by simp)
    have happ : ∀ z ∈ o' ++ [x] ++ [s], okP z := by
      intro z hz
      rcases List.mem_append.1 hz with hz | hz
      · exact h z hz
      · simp at hz; subst hz; exact hs
    by_cases h1 : s.1 = 2
    · by_cases h2 : x.1 = 2
      · rw [normStep_join h2 h1]
        intro z hz
        rcases List.mem_append.1 hz with hz | hz
        · exact h z (by simp [hz])
        · simp at hz
          subst hz
          refine ⟨hx.1, by simp [hx.2.1], fun y hy => ?_⟩
          rcases List.mem_append.1 hy with hy | hy
          · exact hx.2.2 y hy
          · exact hs.2.2 y hy
      · rw [normStep_last h2]; exact happ
    · rw [normStep_kind h1]; exact happ
theorem okP_fold : ∀ (l o : List Seg), (∀ x ∈ o, okP x) → (∀ x ∈ l, okP x) → ∀ x ∈ l.foldl normStep o, okP x
  | [], o, h, _ => h
  | s :: l, o, h, hl => okP_fold l _ (okP_step h (hl s (by simp))) (fun x hx => hl x (by simp [hx]))
theorem okP_norm {l : List Seg} (h : ∀ x ∈ l, okP x) : ∀ x ∈ normA l, okP x := okP_fold l [] (fun x hx => by cases hx) h
theorem okP_of {l : List Seg} (h : rightA l = true) (hw : WF l) : ∀ x ∈ l, okP x := by
  intro x hx
  have h1 := List.all_eq_true.1 (rightA_of h).1 x hx
  unfold okSeg at h1
  have h2 : (x.1 = 1 ∨ x.1 = 2) ∧ x.2.length ≠ 0 ∧ x.2.length ≤ 64 := of_decide_eq_true h1
  exact ⟨h2.1, fun e => h2.2.1 (by rw [e]; rfl), hw x hx⟩
theorem right_of_ok {l : List Seg} (h : ∀ x ∈ l, okP x) (h1 : sumN l ≤ 64) (h2 : l.length ≤ 8) : rightA l = true := by
  refine rightA_yes (List.all_eq_true.2 fun x hx => ?_) h1 h2
  obtain ⟨j, hj⟩ := List.getElem?_of_mem hx
  have := sumN_at hj
  unfold okSeg
  have h3 := h x hx
  refine decide_eq_true ⟨h3.1, fun e => h3.2.1 (List.eq_nil_of_length_eq_zero e), by omega⟩
theorem right_norm {l : List Seg} (h : rightA l = true) (hw : WF l) : rightA (normA l) = true := by
  have h1 := rightA_of h
  exact right_of_ok (okP_norm (okP_of h hw)) (by rw [sumN_norm]; exact h1.2.1) (Nat.le_trans (len_norm l) h1.2.2)
theorem text_norm {l : List Seg} (h : rightA l = true) (hw : WF l) : textA (normA l) = textA l := by
  unfold textA
  rw [right_norm h hw, h, norm_norm]
/-- What Parse tells of a text that was written. -/
theorem parseR_text {l : List Seg} (h : rightA l = true) (hw : WF l) : parseR (textS l) = (normA l, true) := by
  have e : parseOut (textS l) = normA l := by
    unfold textS textA
    rw [h, if_pos rfl, parse_text (normA l) (okP_norm (okP_of h hw)), norm_norm]
  unfold parseR
  rw [e, if_pos]
  rw [text_norm h hw]
  rfl
end Go.Proofs.YtlpkngjeihoknaaDoor
