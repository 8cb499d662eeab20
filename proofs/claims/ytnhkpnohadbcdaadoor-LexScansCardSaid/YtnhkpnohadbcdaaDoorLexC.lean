/- Walks of layer 13 (lex): a word that is not quoted; the scanner within quotes. Conditions: the tables. -/
import Derived.Test.YtnhkpnohadbcdaaDoorProg
import Derived.WalkKit
import Derived.WalkSpells
import Derived.WalkLawsBesides
import Derived.Outline
import Derived.Deep.QuietTactic
import Derived.BigQuiet
import Derived.Handy
import Derived.Lib.Hide
import Derived.Laws.Cover4
import Derived.Deep.DeepCutAuto
import Derived.Deep.CutBlock
import Derived.Test.YtnhkpnohadbcdaaDoorLexA
import Derived.Test.YtnhkpnohadbcdaaDoorOctInt
namespace Go.Proofs.YtnhkpnohadbcdaaDoor
open Go.RowKit
set_option linter.unusedSimpArgs false
set_option linter.unusedVariables false
/-- What a word that is not quoted is. -/
noncomputable def wordOf (s : ByteArray) : Tk := by
  classical
  exact if h : ∃ v, IntAns s.data.toList v true then .num (Classical.choose h) else .word s
theorem wordOf_num {s : ByteArray} {v : Int} (h : IntAns s.data.toList v true) : wordOf s = .num v := by
  have hx : ∃ v, IntAns s.data.toList v true := ⟨v, h⟩
  unfold wordOf
  rw [dif_pos hx]
  exact congrArg Tk.num ((Classical.choose_spec hx).one h).1
theorem wordOf_word {s : ByteArray} {v : Int} (h : IntAns s.data.toList v false) : wordOf s = .word s := by
  have hx : ¬ ∃ v, IntAns s.data.toList v true := fun ⟨v', h'⟩ => by cases (h.one h').2
  unfold wordOf
  rw [dif_neg hx]
set_option maxHeartbeats 1000000 in
set_option maxRecDepth 100000 in
theorem lexWord (s : ByteArray) (w : World) (ht : DigTab w) (hl : s.size ≤ 2000) : Calls Tryd.prog 106 #[.string s] w fun e w' => e = .returned (wordOf s).v ∧ Below w.heap.size w w' := by
  have hs0 : (s.size : Int) ≤ 2000 := by omega
  go_enter Tryd.func106, Tryd.ntmps106
  go_wp2_with fail
  refine (octetInt_any s _ ht hl).mono ?_
  rintro _ w1 ⟨v, ok, rfl, ha, b1⟩
  cases ok
  · have HG := Lib.hid (wordOf_word ha)
    clear ha
    go_wp2_with fail
    go_ret
    exact ⟨by rw [HG.out]; rfl, b1⟩
  · have HG := Lib.hid (wordOf_num ha)
    clear ha
    go_wp2_with fail
    go_ret
    exact ⟨by rw [HG.out]; rfl, b1⟩
theorem Tk.one (t : Tk) : t.v.oneCell' = true := by cases t <;> rfl
/-- A row of the call's own stays where a row of another type is written. -/
theorem own_own {w w' : World} {base base' : Nat} {e e' : TypeId} {s s' n n' : Nat} {v v' : Value} {xs xs' : List Value} (h : w.ownsRow base e s v n xs) (h' : w.ownsRow base' e' s' v' n' xs') (hne : e ≠ e') (hg : w.grownBy w' v'.ownBlock) : w'.ownsRow base e s v n xs := by
  refine ⟨h.1, ?_⟩
  rcases h.2 with h2 | ⟨g, cap, cur, hv, hb, hh, r⟩
  · exact .inl h2
  · refine .inr ⟨g, cap, cur, hv, hb, ?_, r⟩
    have hlt : g < w.heap.size := (Array.getElem?_eq_some_iff.1 hh).1
    rw [hg.block g hlt ?_]
    · exact hh
    · intro e1
      rcases h'.2 with ⟨h3, _⟩ | ⟨g2, _, _, hv2, _, hh2, _⟩
      · rw [h3] at e1; cases e1
      · rw [hv2] at e1
        injection e1 with e1
        subst e1
        rw [hh] at hh2
        injection hh2 with hh2
        injection hh2 with _ h4 _
        exact hne h4
theorem own_alloc {w : World} {base : Nat} {e : TypeId} {size n : Nat} {v : Value} {xs : List Value} (h : w.ownsRow base e size v n xs) (x : Obj) : (w.alloc x).ownsRow base e size v n xs := by
  refine ⟨h.1, ?_⟩
  rcases h.2 with h2 | ⟨g, cap, cur, hv, hb, hh, r⟩
  · exact .inl h2
  · have hlt : g < w.heap.size := (Array.getElem?_eq_some_iff.1 hh).1
    exact .inr ⟨g, cap, cur, hv, hb, (((Below.refl w.heap.size w).alloc (Nat.le_refl _) x).block g hlt).trans hh, r⟩
/-- Each iterator stands where it stood. -/
def ItK (w w' : World) : Prop := ∀ (k : Nat) (s : ByteArray) (q : Nat), w.heap[k]? = some (.stringIter s q) → w'.heap[k]? = some (.stringIter s q)
theorem ItK.refl (w : World) : ItK w w := fun _ _ _ h => h
theorem ItK.trans {a b c : World} (h : ItK a b) (h' : ItK b c) : ItK a c := fun k s q hk => h' k s q (h k s q hk)
theorem ItK.below {w w' : World} (hb : Below w.heap.size w w') : ItK w w' := fun k s q hk => (hb.block k (Array.getElem?_eq_some_iff.1 hk).1).trans hk
theorem ItK.set {w : World} {g : Nat} {t : TypeId} {cs : Array Value} (h : Blk w g t cs) (i : Nat) (u : Value) : ItK w (w.setCell ⟨g, i, none⟩ u) := fun k s q hk => by
  refine (Below.heap_setCell w ⟨g, i, none⟩ u k ?_).trans hk
  intro e
  rw [show k = g from e] at hk
  have h2 : w.heap[g]? = some (.cells cs t (0, 0)) := h
  rw [h2] at hk
  cases hk
theorem ItK.own {w w' : World} {base : Nat} {e : TypeId} {size n : Nat} {v : Value} {xs : List Value} (h : w.ownsRow base e size v n xs) (hg : w.grownBy w' v.ownBlock) : ItK w w' := fun k s q hk => by
  refine (hg.block k (Array.getElem?_eq_some_iff.1 hk).1 ?_).trans hk
  intro e1
  rcases h.2 with ⟨h3, _⟩ | ⟨g2, _, _, hv2, _, hh2, _⟩
  · rw [h3] at e1; cases e1
  · rw [hv2] at e1
    injection e1 with e1
    rw [e1, hh2] at hk
    cases hk
/-- Where a scanner stands. -/
structure Sc where
  out : List Tk
  frm : Int
  q : List Int
  within : Bool
  escape : Bool
  ended : Bool
  bad : Bool
def SC (w : World) (base g : Nat) (st : Sc) : Prop := ∃ (A1 : Option Addr) (n1 c1 : Nat) (A2 : Option Addr) (n2 c2 : Nat), Blk w g 113 #[.slice A1 n1 c1, .int .i64 st.frm, .slice A2 n2 c2, .bool st.within, .bool st.escape, .bool st.ended, .bool st.bad] ∧ w.ownsRow base 20 1 (.slice A1 n1 c1) n1 (st.out.map Tk.v) ∧ w.ownsRow base 21 1 (.slice A2 n2 c2) n2 (st.q.map (Value.int .i32)) ∧ base ≤ g
def inSt (st : Sc) (c : Int) : Sc :=
  if st.escape = true then { st with q := st.q ++ [c], escape := false, bad := st.bad || (c != 34 && c != 92) }
  else if c = 92 then { st with escape := true }
  else if c = 34 then { st with out := st.out ++ [.quo (runesBytes st.q)], within := false, ended := true, q := [] }
  else { st with q := st.q ++ [c] }
theorem one_reads {w : World} {g : Nat} {t : TypeId} {v : Value} (h : Blk w g t #[v]) : Reads w (g + 1) 1 (some ⟨g, 0, none⟩) 1 [v] :=
  ⟨rfl, fun _ => ⟨_, rfl, Nat.lt_succ_self _, fun j u hu => by
    cases j with
    | zero => simp at hu; subst hu; rw [addr_add]; exact h.cell 0
    | succ j => simp at hu⟩⟩
theorem conv_runes {w : World} {base n c : Nat} {A : Option Addr} {q : List Int} (h : w.ownsRow base 21 1 (.slice A n c) n (q.map (Value.int .i32))) : (convert 110 9 (.slice A n c)).run Tryd.prog w = .ok (.string (runesBytes q)) w := by
  have hr := Reads.of_own h
  have hn : n = q.length := by have := h.1; simp at this; omega
  rcases A with _ | ad
  · have : q.length = 0 := by
      rcases Nat.eq_zero_or_pos q.length with h0 | h0
      · exact h0
      · obtain ⟨ad, e, _⟩ := hr.2 (by omega); cases e
    have hq : q = [] := List.eq_nil_of_length_eq_zero this
    subst hq
    exact run_convert_runes_nil w _ _ 21 n c Tryd.underlying110 Tryd.underlying21 Tryd.underlying9
  · have := run_convert_runes (P := Tryd.prog) w 110 9 21 ad n c q (by omega) Tryd.underlying110 Tryd.underlying21 Tryd.underlying9 (fun j hj => by
      obtain ⟨ad', e, _, hc⟩ := hr.2 (by omega)
      injection e with e
      subst e
      exact hc j _ (by rw [List.getElem?_map, List.getElem?_eq_getElem hj, Option.map_some, List.getD_eq_getElem?_getD, List.getElem?_eq_getElem hj]; rfl))
    rw [List.take_of_length_le (by omega)] at this
    exact this
theorem own_form {w : World} {base : Nat} {e : TypeId} {n : Nat} {v : Value} {xs : List Value} (h : w.ownsRow base e 1 v (n + 1) xs) : ∃ A c, v = .slice A (n + 1) c := by
  rcases h.2 with ⟨_, h0⟩ | ⟨g, cap, cur, hv, _⟩
  · omega
  · exact ⟨_, _, hv⟩
theorem i32_info : (Tryd.prog.info? 21).map (fun i => (i.zero, i.size, i.bytes)) = some (some (.int .i32 0), 1, 4) := by kernel_rfl
theorem any_info : (Tryd.prog.info? 20).map (fun i => (i.zero, i.size, i.bytes)) = some (some .nilIface, 1, 16) := by kernel_rfl
def RetIn (w : World) (base g : Nat) (st : Sc) (e : Ending) (w' : World) : Prop := e = .returned (.tuple #[]) ∧ SC w' base g st ∧ Below base w w' ∧ ItK w w'
set_option maxHeartbeats 4000000 in
set_option maxRecDepth 100000 in
theorem lexInside (c : Int) (w : World) (base g : Nat) (st : Sc) (h : SC w base g st) (hq : st.q.length ≤ 100000) (ho : st.out.length ≤ 100000) :
    Calls Tryd.prog 104 #[.pointer (some ⟨g, 0, none⟩), .int .i32 c] w (RetIn w base g (inSt st c)) := by
  obtain ⟨out, frm, q, within, escape, ended, bad⟩ := st
  obtain ⟨A1, n1, c1, A2, n2, c2, hS, h1, h2, hbg⟩ := h
  simp only at hS h1 h2 hq ho
  have hSl := hS.lt
  have hn2 : n2 ≤ 100000 := by have := h2.1; simp at this; omega
  have hn1 : n1 ≤ 100000 := by have := h1.1; simp at this; omega
  cases escape
  case false =>
    by_cases e1 : c = 92
    · have t1 : (c == 92) = true := by rw [e1]; rfl
      have HE := Lib.hid (show inSt ⟨out, frm, q, within, false, ended, bad⟩ c = ⟨out, frm, q, within, true, ended, bad⟩ by unfold inSt; simp [e1])
      clear e1
      have c_hS4 := hS.cell 4
      have f_hS4 := hS.frozen 4
      go_enter Tryd.func104, Tryd.ntmps104
      go_wp2_with fail
      have hS1 := hS.set_ 4 (.bool true)
      simp only [List.setIfInBounds_toArray, List.set_cons_succ, List.set_cons_zero] at hS1
      have hg1 := only_setCell (World.grownBy.refl w (some g)) (p := ⟨g, 4, none⟩) (.inl rfl) (.bool true)
      go_returns
      exact ⟨rfl, by rw [HE.out]; exact ⟨A1, n1, c1, A2, n2, c2, hS1, own_at h1 hS (by decide) hg1, own_at h2 hS (by decide) hg1, hbg⟩, (Below.refl base w).setCell (p := ⟨g, 4, none⟩) hbg _, ItK.set hS 4 _⟩
    have t1 : (c == 92) = false := by simpa using e1
    by_cases e2 : c = 34
    · have t2 : (c == 34) = true := by rw [e2]; rfl
      have HE := Lib.hid (show inSt ⟨out, frm, q, within, false, ended, bad⟩ c = ⟨out ++ [.quo (runesBytes q)], frm, [], false, false, true, bad⟩ by unfold inSt; simp [e2])
      clear e1 e2
      have c4 := hS.cell 4
      have c2_ := hS.cell 2
      have c0_ := hS.cell 0
      obtain ⟨R, hR⟩ : ∃ R, runesBytes q = R := ⟨_, rfl⟩
      have hSd := hS.drew
      have h1d : w.drew.ownsRow base 20 1 (.slice A1 n1 c1) n1 (out.map Tk.v) := h1
      have h2d : w.drew.ownsRow base 21 1 (.slice A2 n2 c2) n2 (q.map (Value.int .i32)) := h2
      have hcv := fun (w' : World) (hw' : w'.ownsRow base 21 1 (.slice A2 n2 c2) n2 (q.map (Value.int .i32))) => conv_runes hw'
      rw [hR] at hcv
      have hSa := hSd.alloc (.cells #[.iface 109 (.string R)] 20)
      have h1a := own_alloc h1d (.cells #[.iface 109 (.string R)] 20)
      have h2a := own_alloc h2d (.cells #[.iface 109 (.string R)] 20)
      have Ia := ItK.below ((Below.refl w.heap.size w).drew.alloc (Nat.le_refl _) (.cells #[.iface 109 (.string R)] 20))
      have ba := (Below.refl base w).drew.alloc (show base ≤ w.drew.heap.size by show base ≤ w.heap.size; omega) (.cells #[.iface 109 (.string R)] 20)
      go_enter Tryd.func104, Tryd.ntmps104
      go_upto_region 7 with fail
      rename_i hk
      have HK := Lib.hid hk
      clear hk
      refine wp_region_held_drew (S := (fun w' => w'.cell? ⟨g, 2, none⟩ = some (.slice A2 n2 c2) ∧ w'.ownsRow base 21 1 (.slice A2 n2 c2) n2 (q.map (Value.int .i32)))) (by kernel_rfl) ?_ (fun hHeld => ?_)
      · (first | exact ⟨hSd.cell 2, h2d⟩ | exact ⟨hSa.cell 2, h2a⟩ | exact ⟨hS3.cell 2, h23⟩ | exact ⟨hS4.cell 2, h24⟩)
      refine wpAnyH_take (i := 0) (v := ?q1v0) rfl (by kernel_rfl) (by kernel_rfl) (by kernel_rfl) (by intro _ _ _ h; exact h) (Or.inl ⟨by rfl, ?q1hy0⟩) (by assumption) ?q1rest0
      case q1hy0 => (intro w hSw; (try dsimp only at hSw); go_simp; try with_reducible rfl)
      try simp only [Act.put, List.getElem_toArray, List.getElem_cons_succ, List.getElem_cons_zero, List.setIfInBounds_toArray, List.set_cons_zero, List.set_cons_succ]
      refine wpAnyH_take (i := 1) (v := ?q1v1) rfl (by kernel_rfl) (by kernel_rfl) (by kernel_rfl) (by intro _ _ _ h; exact h) (Or.inl ⟨by rfl, ?q1hy1⟩) (by assumption) ?q1rest1
      case q1hy1 => (intro w hSw; (try dsimp only at hSw); go_simp; try with_reducible rfl)
      try simp only [Act.put, List.getElem_toArray, List.getElem_cons_succ, List.getElem_cons_zero, List.setIfInBounds_toArray, List.set_cons_zero, List.set_cons_succ]
      refine wpAnyH_take (i := 2) (v := ?q1v2) rfl (by kernel_rfl) (by kernel_rfl) (by kernel_rfl) (by intro _ _ _ h; exact h) (Or.inl ⟨by rfl, ?q1hy2⟩) (by assumption) ?q1rest2
      case q1hy2 => (intro w hSw; (try dsimp only at hSw); go_simp; try with_reducible rfl)
      try simp only [Act.put, List.getElem_toArray, List.getElem_cons_succ, List.getElem_cons_zero, List.setIfInBounds_toArray, List.set_cons_zero, List.set_cons_succ]
      refine wpAnyH_take (i := 3) (v := ?q1v3) rfl (by kernel_rfl) (by kernel_rfl) (by kernel_rfl) (by intro _ _ _ h; exact h) (Or.inl ⟨by rfl, ?q1hy3⟩) (by assumption) ?q1rest3
      case q1hy3 => (intro w hSw; (try dsimp only at hSw); go_simp; try with_reducible rfl)
      try simp only [Act.put, List.getElem_toArray, List.getElem_cons_succ, List.getElem_cons_zero, List.setIfInBounds_toArray, List.set_cons_zero, List.set_cons_succ]
      refine wpAnyH_take (i := 5) (v := ?q1v5) rfl (by kernel_rfl) (by kernel_rfl) (by kernel_rfl) (by intro _ _ _ h; exact h) (Or.inl ⟨by rfl, ?q1hy5⟩) (by assumption) ?q1rest5
      case q1hy5 => (intro w hSw; (try dsimp only at hSw); go_simp; try with_reducible rfl)
      try simp only [Act.put, List.getElem_toArray, List.getElem_cons_succ, List.getElem_cons_zero, List.setIfInBounds_toArray, List.set_cons_zero, List.set_cons_succ]
      refine wpAnyH_take (i := 6) (v := ?q1v6) rfl (by kernel_rfl) (by kernel_rfl) (by kernel_rfl) (by intro _ _ _ h; exact h) (Or.inl ⟨by rfl, ?q1hy6⟩) (by assumption) ?q1rest6
      case q1hy6 => (intro w hSw; (try dsimp only at hSw); go_simp; try with_reducible rfl)
      try simp only [Act.put, List.getElem_toArray, List.getElem_cons_succ, List.getElem_cons_zero, List.setIfInBounds_toArray, List.set_cons_zero, List.set_cons_succ]
      refine wpAnyH_take (i := 7) (v := ?q1v7) rfl (by kernel_rfl) (by kernel_rfl) (by kernel_rfl) (by intro _ _ _ h; exact h) (Or.inl ⟨by rfl, ?q1hy7⟩) (by assumption) ?q1rest7
      case q1hy7 => (intro w hSw; (try dsimp only at hSw); go_simp; try with_reducible rfl)
      try simp only [Act.put, List.getElem_toArray, List.getElem_cons_succ, List.getElem_cons_zero, List.setIfInBounds_toArray, List.set_cons_zero, List.set_cons_succ]
      refine wpAnyH_take (i := 8) (v := ?q1v8) rfl (by kernel_rfl) (by kernel_rfl) (by kernel_rfl) (by intro _ _ _ h; exact h) (Or.inl ⟨by rfl, ?q1hy8⟩) (by assumption) ?q1rest8
      case q1hy8 => (intro w hSw; (try dsimp only at hSw); go_simp; try with_reducible rfl)
      try simp only [Act.put, List.getElem_toArray, List.getElem_cons_succ, List.getElem_cons_zero, List.setIfInBounds_toArray, List.set_cons_zero, List.set_cons_succ]
      refine wpAnyH_take (i := 9) (v := .string R) rfl (by kernel_rfl) (by kernel_rfl) (by kernel_rfl) (by intro _ _ _ h; exact h) (Or.inl ⟨by rfl, ?q1hy9⟩) (by assumption) ?q1rest9
      case q1hy9 => (intro w hSw; (try dsimp only at hSw); go_simp; all_goals (rw [hcv _ hSw.2]))
      try simp only [Act.put, List.getElem_toArray, List.getElem_cons_succ, List.getElem_cons_zero, List.setIfInBounds_toArray, List.set_cons_zero, List.set_cons_succ]
      refine wpAnyH_take (i := 10) (v := ?q1v10) rfl (by kernel_rfl) (by kernel_rfl) (by kernel_rfl) (by intro _ _ _ h; exact h) (Or.inl ⟨by rfl, ?q1hy10⟩) (by assumption) ?q1rest10
      case q1hy10 => (intro w hSw; (try dsimp only at hSw); go_simp; try with_reducible rfl)
      try simp only [Act.put, List.getElem_toArray, List.getElem_cons_succ, List.getElem_cons_zero, List.setIfInBounds_toArray, List.set_cons_zero, List.set_cons_succ]
      refine wpAnyH_ready (rs := [4, 11]) (by kernel_rfl) (by simp) ?_
      obtain ⟨ii, hii, hiz, his, hib⟩ : ∃ i, Tryd.prog.info? 20 = some i ∧ i.zero = some .nilIface ∧ i.size = 1 ∧ i.bytes = 16 := by
        have := any_info
        simp only [Option.map_eq_some_iff, Prod.mk.injEq] at this
        exact this
      refine AllReadyH.cons rfl (fun K hK => ?_) (AllReadyH.cons rfl (fun K hK => ?_) AllReadyH.nil)
      · go_simp
        go_wp2_with (fail)
        refine hK.out _ _ ?_ (fun hHeld => ?_)
        · try dsimp only
          (first | exact ⟨hSd.cell 2, h2d⟩ | exact ⟨hSa.cell 2, h2a⟩ | exact ⟨hS3.cell 2, h23⟩ | exact ⟨hS4.cell 2, h24⟩)
        clear hK K
        refine wpAnyH_ready (rs := [11]) (by kernel_rfl) (by simp) ?_
        refine AllReadyH.cons rfl (fun K hK => ?_) AllReadyH.nil
        go_simp
        go_wp2_with (fail)
        refine hK.out _ _ ?_ (fun hHeld => ?_)
        · try dsimp only
          (first | exact ⟨hSd.cell 2, h2d⟩ | exact ⟨hSa.cell 2, h2a⟩ | exact ⟨hS3.cell 2, h23⟩ | exact ⟨hS4.cell 2, h24⟩)
        clear hK K
        refine wpAnyH_ready (rs := [12]) (by kernel_rfl) (by simp) ?_
        refine AllReadyH.cons rfl (fun K hK => ?_) AllReadyH.nil
        refine step_append_any _ rfl (.tmp 60) (.tmp 67) 80 rfl base 20 ii .nilIface 1 16 Tryd.underlying80 hii hiz his hib rfl (by omega) (.slice A1 n1 c1) n1 _ (by rfl) h1a (w.heap.size + 1) (some ⟨w.heap.size, 0, none⟩) 1 1 [.iface 109 (.string R)] (by rfl) (one_reads (Blk.new w.drew 20 #[.iface 109 (.string R)])) (by intro u hu; simp at hu; subst hu; rfl) (by unfold maxLen; omega) (by omega) (by show base ≤ (w.drew.alloc _).heap.size; simp; omega) ?_; intro v3 w3 o3 g3 hat; obtain ⟨A3, c3, rfl⟩ := own_form o3; have hS3 := hSa.grown g3 (by intro e; first | exact own_blk_ne h1a hSa (by decide) e | exact own_blk_ne h1a hSa (by decide) e.symm); have h23 := own_own h2a h1a (by decide) g3; have f0 := hS3.frozen 0; have k0 := hS3.cell 0; have hS4 := hS3.set_ 0 (.slice A3 (n1 + 1) c3); have hg4 := only_setCell (World.grownBy.refl w3 (some g)) (p := ⟨g, 0, none⟩) (.inl rfl) (.slice A3 (n1 + 1) c3); have h24 := own_at h23 hS3 (by decide) hg4
        refine hK.out _ _ ?_ (fun hHeld => ?_)
        · try dsimp only
          (first | exact ⟨hSd.cell 2, h2d⟩ | exact ⟨hSa.cell 2, h2a⟩ | exact ⟨hS3.cell 2, h23⟩ | exact ⟨hS4.cell 2, h24⟩)
        clear hK K
        refine wpAnyH_take (i := 13) (v := ?q24v13) rfl (by kernel_rfl) (by kernel_rfl) (by kernel_rfl) (by intro _ _ _ h; exact h) (Or.inl ⟨by rfl, ?q24hy13⟩) (by assumption) ?q24rest13
        case q24hy13 => (intro w hSw; (try dsimp only at hSw); go_simp; try with_reducible rfl)
        try simp only [Act.put, List.getElem_toArray, List.getElem_cons_succ, List.getElem_cons_zero, List.setIfInBounds_toArray, List.set_cons_zero, List.set_cons_succ]
        refine wpAnyH_take (i := 14) (v := ?q24v14) rfl (by kernel_rfl) (by kernel_rfl) (by kernel_rfl) (by intro _ _ _ h; exact h) (Or.inl ⟨by rfl, ?q24hy14⟩) (by assumption) ?q24rest14
        case q24hy14 => (intro w hSw; (try dsimp only at hSw); go_simp; try with_reducible rfl)
        try simp only [Act.put, List.getElem_toArray, List.getElem_cons_succ, List.getElem_cons_zero, List.setIfInBounds_toArray, List.set_cons_zero, List.set_cons_succ]
        refine wpAnyH_ready (rs := [15]) (by kernel_rfl) (by simp) ?_
        refine AllReadyH.cons rfl (fun K hK => ?_) AllReadyH.nil
        go_simp
        go_wp2_with (fail)
        refine hK.out _ _ ?_ (fun hHeld => ?_)
        · try dsimp only
          (first | exact ⟨hSd.cell 2, h2d⟩ | exact ⟨hSa.cell 2, h2a⟩ | exact ⟨hS3.cell 2, h23⟩ | exact ⟨hS4.cell 2, h24⟩)
        clear hK K
        refine wpAnyH_done (by kernel_rfl) ?_ _
        refine HK.out _ _ ?_
        clear HK
        simp only [List.setIfInBounds_toArray, List.set_cons_succ, List.set_cons_zero] at hS4
        have b3 : Below base (w.drew.alloc (.cells #[.iface 109 (.string R)] 20)) w3 := ⟨g3.os, g3.tape, g3.output, g3.size, fun b hb => g3.block b (by show b < (w.drew.alloc _).heap.size; simp; omega) (fun e => by have := (h1a.lt b e.symm).1; omega)⟩
        have I3 := Ia.trans (ItK.own h1a g3)
        have o4 := own_at o3 hS3 (by decide) hg4
        have b4 := (ba.trans b3).setCell (p := ⟨g, 0, none⟩) hbg (.slice A3 (n1 + 1) c3)
        have I4 := I3.trans (ItK.set hS3 0 (.slice A3 (n1 + 1) c3))
        obtain ⟨w4, hw4⟩ : ∃ W, w3.setCell ⟨g, 0, none⟩ (.slice A3 (n1 + 1) c3) = W := ⟨_, rfl⟩
        rw [hw4] at hS4 o4 b4 I4
        rw [hw4]
        clear hw4 c0_ c2_ c4 f0 k0
        have m3 := hS4.cell 3
        have m5 := hS4.cell 5
        have m2 := hS4.cell 2
        have f3 := hS4.frozen 3
        have f5 := hS4.frozen 5
        have f2 := hS4.frozen 2
        go_wp2_with fail
        have hS5 := hS4.set_ 3 (.bool false)
        have g5 := only_setCell (World.grownBy.refl w4 (some g)) (p := ⟨g, 3, none⟩) (.inl rfl) (.bool false)
        have hS6 := hS5.set_ 5 (.bool true)
        have g6 := only_setCell g5 (p := ⟨g, 5, none⟩) (.inl rfl) (.bool true)
        have hS7 := hS6.set_ 2 (.slice none 0 0)
        have g7 := only_setCell g6 (p := ⟨g, 2, none⟩) (.inl rfl) (.slice none 0 0)
        simp only [List.setIfInBounds_toArray, List.set_cons_succ, List.set_cons_zero] at hS7
        have o7 := own_at o4 hS4 (by decide) g7
        have b7 := ((b4.setCell (p := ⟨g, 3, none⟩) hbg (.bool false)).setCell (p := ⟨g, 5, none⟩) hbg (.bool true)).setCell (p := ⟨g, 2, none⟩) hbg (.slice none 0 0)
        have I7 := ((I4.trans (ItK.set hS4 3 (.bool false))).trans (ItK.set hS5 5 (.bool true))).trans (ItK.set hS6 2 (.slice none 0 0))
        subst hR
        go_returns
        exact ⟨rfl, by rw [HE.out]; exact ⟨A3, n1 + 1, c3, none, 0, 0, hS7, by rw [List.map_append]; exact o7, World.ownsRow_nil _ _ _ _, hbg⟩, b7, I7⟩
      · go_simp
        go_wp2_with (fail)
        refine hK.out _ _ ?_ (fun hHeld => ?_)
        · try dsimp only
          (first | exact ⟨hSd.cell 2, h2d⟩ | exact ⟨hSa.cell 2, h2a⟩ | exact ⟨hS3.cell 2, h23⟩ | exact ⟨hS4.cell 2, h24⟩)
        clear hK K
        refine wpAnyH_ready (rs := [4]) (by kernel_rfl) (by simp) ?_
        refine AllReadyH.cons rfl (fun K hK => ?_) AllReadyH.nil
        go_simp
        go_wp2_with (fail)
        refine hK.out _ _ ?_ (fun hHeld => ?_)
        · try dsimp only
          (first | exact ⟨hSd.cell 2, h2d⟩ | exact ⟨hSa.cell 2, h2a⟩ | exact ⟨hS3.cell 2, h23⟩ | exact ⟨hS4.cell 2, h24⟩)
        clear hK K
        refine wpAnyH_ready (rs := [12]) (by kernel_rfl) (by simp) ?_
        refine AllReadyH.cons rfl (fun K hK => ?_) AllReadyH.nil
        refine step_append_any _ rfl (.tmp 60) (.tmp 67) 80 rfl base 20 ii .nilIface 1 16 Tryd.underlying80 hii hiz his hib rfl (by omega) (.slice A1 n1 c1) n1 _ (by rfl) h1a (w.heap.size + 1) (some ⟨w.heap.size, 0, none⟩) 1 1 [.iface 109 (.string R)] (by rfl) (one_reads (Blk.new w.drew 20 #[.iface 109 (.string R)])) (by intro u hu; simp at hu; subst hu; rfl) (by unfold maxLen; omega) (by omega) (by show base ≤ (w.drew.alloc _).heap.size; simp; omega) ?_; intro v3 w3 o3 g3 hat; obtain ⟨A3, c3, rfl⟩ := own_form o3; have hS3 := hSa.grown g3 (by intro e; first | exact own_blk_ne h1a hSa (by decide) e | exact own_blk_ne h1a hSa (by decide) e.symm); have h23 := own_own h2a h1a (by decide) g3; have f0 := hS3.frozen 0; have k0 := hS3.cell 0; have hS4 := hS3.set_ 0 (.slice A3 (n1 + 1) c3); have hg4 := only_setCell (World.grownBy.refl w3 (some g)) (p := ⟨g, 0, none⟩) (.inl rfl) (.slice A3 (n1 + 1) c3); have h24 := own_at h23 hS3 (by decide) hg4
        refine hK.out _ _ ?_ (fun hHeld => ?_)
        · try dsimp only
          (first | exact ⟨hSd.cell 2, h2d⟩ | exact ⟨hSa.cell 2, h2a⟩ | exact ⟨hS3.cell 2, h23⟩ | exact ⟨hS4.cell 2, h24⟩)
        clear hK K
        refine wpAnyH_take (i := 13) (v := ?q31v13) rfl (by kernel_rfl) (by kernel_rfl) (by kernel_rfl) (by intro _ _ _ h; exact h) (Or.inl ⟨by rfl, ?q31hy13⟩) (by assumption) ?q31rest13
        case q31hy13 => (intro w hSw; (try dsimp only at hSw); go_simp; try with_reducible rfl)
        try simp only [Act.put, List.getElem_toArray, List.getElem_cons_succ, List.getElem_cons_zero, List.setIfInBounds_toArray, List.set_cons_zero, List.set_cons_succ]
        refine wpAnyH_take (i := 14) (v := ?q31v14) rfl (by kernel_rfl) (by kernel_rfl) (by kernel_rfl) (by intro _ _ _ h; exact h) (Or.inl ⟨by rfl, ?q31hy14⟩) (by assumption) ?q31rest14
        case q31hy14 => (intro w hSw; (try dsimp only at hSw); go_simp; try with_reducible rfl)
        try simp only [Act.put, List.getElem_toArray, List.getElem_cons_succ, List.getElem_cons_zero, List.setIfInBounds_toArray, List.set_cons_zero, List.set_cons_succ]
        refine wpAnyH_ready (rs := [15]) (by kernel_rfl) (by simp) ?_
        refine AllReadyH.cons rfl (fun K hK => ?_) AllReadyH.nil
        go_simp
        go_wp2_with (fail)
        refine hK.out _ _ ?_ (fun hHeld => ?_)
        · try dsimp only
          (first | exact ⟨hSd.cell 2, h2d⟩ | exact ⟨hSa.cell 2, h2a⟩ | exact ⟨hS3.cell 2, h23⟩ | exact ⟨hS4.cell 2, h24⟩)
        clear hK K
        refine wpAnyH_done (by kernel_rfl) ?_ _
        refine HK.out _ _ ?_
        clear HK
        simp only [List.setIfInBounds_toArray, List.set_cons_succ, List.set_cons_zero] at hS4
        have b3 : Below base (w.drew.alloc (.cells #[.iface 109 (.string R)] 20)) w3 := ⟨g3.os, g3.tape, g3.output, g3.size, fun b hb => g3.block b (by show b < (w.drew.alloc _).heap.size; simp; omega) (fun e => by have := (h1a.lt b e.symm).1; omega)⟩
        have I3 := Ia.trans (ItK.own h1a g3)
        have o4 := own_at o3 hS3 (by decide) hg4
        have b4 := (ba.trans b3).setCell (p := ⟨g, 0, none⟩) hbg (.slice A3 (n1 + 1) c3)
        have I4 := I3.trans (ItK.set hS3 0 (.slice A3 (n1 + 1) c3))
        obtain ⟨w4, hw4⟩ : ∃ W, w3.setCell ⟨g, 0, none⟩ (.slice A3 (n1 + 1) c3) = W := ⟨_, rfl⟩
        rw [hw4] at hS4 o4 b4 I4
        rw [hw4]
        clear hw4 c0_ c2_ c4 f0 k0
        have m3 := hS4.cell 3
        have m5 := hS4.cell 5
        have m2 := hS4.cell 2
        have f3 := hS4.frozen 3
        have f5 := hS4.frozen 5
        have f2 := hS4.frozen 2
        go_wp2_with fail
        have hS5 := hS4.set_ 3 (.bool false)
        have g5 := only_setCell (World.grownBy.refl w4 (some g)) (p := ⟨g, 3, none⟩) (.inl rfl) (.bool false)
        have hS6 := hS5.set_ 5 (.bool true)
        have g6 := only_setCell g5 (p := ⟨g, 5, none⟩) (.inl rfl) (.bool true)
        have hS7 := hS6.set_ 2 (.slice none 0 0)
        have g7 := only_setCell g6 (p := ⟨g, 2, none⟩) (.inl rfl) (.slice none 0 0)
        simp only [List.setIfInBounds_toArray, List.set_cons_succ, List.set_cons_zero] at hS7
        have o7 := own_at o4 hS4 (by decide) g7
        have b7 := ((b4.setCell (p := ⟨g, 3, none⟩) hbg (.bool false)).setCell (p := ⟨g, 5, none⟩) hbg (.bool true)).setCell (p := ⟨g, 2, none⟩) hbg (.slice none 0 0)
        have I7 := ((I4.trans (ItK.set hS4 3 (.bool false))).trans (ItK.set hS5 5 (.bool true))).trans (ItK.set hS6 2 (.slice none 0 0))
        subst hR
        go_returns
        exact ⟨rfl, by rw [HE.out]; exact ⟨A3, n1 + 1, c3, none, 0, 0, hS7, by rw [List.map_append]; exact o7, World.ownsRow_nil _ _ _ _, hbg⟩, b7, I7⟩
    have t2 : (c == 34) = false := by simpa using e2
    have HE := Lib.hid (show inSt ⟨out, frm, q, within, false, ended, bad⟩ c = ⟨out, frm, q ++ [c], within, false, ended, bad⟩ by unfold inSt; simp [e1, e2])
    clear e1 e2
    have c4 := hS.cell 4
    go_enter Tryd.func104, Tryd.ntmps104
    have hSa := hS.alloc (.cells #[.int .i32 c] 21)
    have h1a := own_alloc h1 (.cells #[.int .i32 c] 21)
    have h2a := own_alloc h2 (.cells #[.int .i32 c] 21)
    have ba := (Below.refl base w).alloc (show base ≤ w.heap.size by omega) (.cells #[.int .i32 c] 21)
    have Ia := ItK.below ((Below.refl w.heap.size w).alloc (Nat.le_refl _) (.cells #[.int .i32 c] 21))
    have hcell := hS.cell 2
    go_wp2_with (at_builtin; refine wpl_appR rfl (.tmp 8) (.tmp 10) 110 rfl 21 (.int .i32 0) 1 4 Tryd.underlying110 i32_info rfl (by omega) base A2 n2 c2 _ (by rfl) h2a (w.heap.size + 1) (some ⟨w.heap.size, 0, none⟩) 1 1 [.int .i32 c] (by rfl) (one_reads (Blk.new w 21 #[.int .i32 c])) (by intro u hu; simp at hu; subst hu; rfl) (by unfold maxLen; omega) (by omega) (by simp; omega) ?_; intro A3 c3 w3 o3 b3 g3 _; have hS3 := hSa.grown g3 (by intro e; first | exact own_blk_ne h2a hSa (by decide) e | exact own_blk_ne h2a hSa (by decide) e.symm); have f2 := hS3.frozen 2; have k2 := hS3.cell 2; have f4 := hS3.frozen 4; have k4 := hS3.cell 4)
    have h13 := own_own h1a h2a (by decide) g3
    have I3 := (ItK.refl w).trans (Ia.trans (ItK.own h2a g3))
    have b3' := ba.trans b3
    have hS4 := hS3.set_ 2 (.slice A3 (n2 + 1) c3)
    simp only [List.setIfInBounds_toArray, List.set_cons_succ, List.set_cons_zero] at hS4
    have hg4 := only_setCell (World.grownBy.refl w3 (some g)) (p := ⟨g, 2, none⟩) (.inl rfl) (.slice A3 (n2 + 1) c3)
    have h14 := own_at h13 hS3 (by decide) hg4
    have o4 := own_at o3 hS3 (by decide) hg4
    have b4 := b3'.setCell (p := ⟨g, 2, none⟩) hbg (.slice A3 (n2 + 1) c3)
    have I4 := I3.trans (ItK.set hS3 2 (.slice A3 (n2 + 1) c3))
    go_returns
    exact ⟨rfl, by rw [HE.out]; exact ⟨A1, n1, c1, A3, n2 + 1, c3, hS4, h14, by rw [List.map_append]; exact o4, hbg⟩, b4, I4⟩
  case true =>
    cases bad
    case true =>
      have HE := Lib.hid (show inSt ⟨out, frm, q, within, true, ended, true⟩ c = ⟨out, frm, q ++ [c], within, false, ended, true⟩ by unfold inSt; simp)
      have c4 := hS.cell 4
      have c6 := hS.cell 6
      have f6 := hS.frozen 6
      go_enter Tryd.func104, Tryd.ntmps104
      go_upto_region 3 with fail
      obtain ⟨w1, hw1⟩ : ∃ W, w.setCell ⟨g, 6, none⟩ (.bool true) = W := ⟨_, rfl⟩
      have hS1 := hS.set_ 6 (.bool true)
      simp only [List.setIfInBounds_toArray, List.set_cons_succ, List.set_cons_zero] at hS1
      have hg1 := only_setCell (World.grownBy.refl w (some g)) (p := ⟨g, 6, none⟩) (.inl rfl) (.bool true)
      have h11 := own_at h1 hS (by decide) hg1
      have h21 := own_at h2 hS (by decide) hg1
      have b1 := (Below.refl base w).setCell (p := ⟨g, 6, none⟩) hbg (.bool true)
      have I1 := ItK.set hS 6 (.bool true)
      rw [hw1] at hS1 hg1 h11 h21 b1 I1
      rw [hw1]
      clear c4 c6 f6 hw1
      have hS1l := hS1.lt
      have hSa := hS1.alloc (.cells #[.int .i32 c] 21)
      have h1a := own_alloc h11 (.cells #[.int .i32 c] 21)
      have h2a := own_alloc h21 (.cells #[.int .i32 c] 21)
      have ba := b1.alloc (show base ≤ w1.heap.size by omega) (.cells #[.int .i32 c] 21)
      have Ia := ItK.below ((Below.refl w1.heap.size w1).alloc (Nat.le_refl _) (.cells #[.int .i32 c] 21))
      have hcell := hS1.cell 2
      go_wp2_with (at_builtin; refine wpl_appR rfl (.tmp 39) (.tmp 41) 110 rfl 21 (.int .i32 0) 1 4 Tryd.underlying110 i32_info rfl (by omega) base A2 n2 c2 _ (by rfl) h2a (w1.heap.size + 1) (some ⟨w1.heap.size, 0, none⟩) 1 1 [.int .i32 c] (by rfl) (one_reads (Blk.new w1 21 #[.int .i32 c])) (by intro u hu; simp at hu; subst hu; rfl) (by unfold maxLen; omega) (by omega) (by simp; omega) ?_; intro A3 c3 w3 o3 b3 g3 _; have hS3 := hSa.grown g3 (by intro e; first | exact own_blk_ne h2a hSa (by decide) e | exact own_blk_ne h2a hSa (by decide) e.symm); have f2 := hS3.frozen 2; have k2 := hS3.cell 2; have f4 := hS3.frozen 4; have k4 := hS3.cell 4)
      have h13 := own_own h1a h2a (by decide) g3
      have I3 := (I1).trans (Ia.trans (ItK.own h2a g3))
      have b3' := ba.trans b3
      have hS4 := hS3.set_ 2 (.slice A3 (n2 + 1) c3)
      simp only [List.setIfInBounds_toArray, List.set_cons_succ, List.set_cons_zero] at hS4
      have hg4 := only_setCell (World.grownBy.refl w3 (some g)) (p := ⟨g, 2, none⟩) (.inl rfl) (.slice A3 (n2 + 1) c3)
      have h14 := own_at h13 hS3 (by decide) hg4
      have o4 := own_at o3 hS3 (by decide) hg4
      have b4 := b3'.setCell (p := ⟨g, 2, none⟩) hbg (.slice A3 (n2 + 1) c3)
      have I4 := I3.trans (ItK.set hS3 2 (.slice A3 (n2 + 1) c3))
      obtain ⟨w4, hw4⟩ : ∃ W, w3.setCell ⟨g, 2, none⟩ (.slice A3 (n2 + 1) c3) = W := ⟨_, rfl⟩
      rw [hw4] at hS4 h14 o4 b4 I4
      have hS5 := hS4.set_ 4 (.bool false)
      simp only [List.setIfInBounds_toArray, List.set_cons_succ, List.set_cons_zero] at hS5
      have hg5 := only_setCell (World.grownBy.refl w4 (some g)) (p := ⟨g, 4, none⟩) (.inl rfl) (.bool false)
      have h15 := own_at h14 hS4 (by decide) hg5
      have o5 := own_at o4 hS4 (by decide) hg5
      have b5 := b4.setCell (p := ⟨g, 4, none⟩) hbg (.bool false)
      have I5 := I4.trans (ItK.set hS4 4 (.bool false))
      rw [← hw4] at hS5 h15 o5 b5 I5
      go_returns
      exact ⟨rfl, by rw [HE.out]; exact ⟨A1, n1, c1, A3, n2 + 1, c3, hS5, h15, by rw [List.map_append]; exact o5, hbg⟩, b5, I5⟩
    case false =>
      by_cases e1 : c = 34
      · have t1 : (c != 34) = false := by simpa using e1
        have HE := Lib.hid (show inSt ⟨out, frm, q, within, true, ended, false⟩ c = ⟨out, frm, q ++ [c], within, false, ended, false⟩ by unfold inSt; simp [e1])
        clear e1
        have c4 := hS.cell 4
        have c6 := hS.cell 6
        have f6 := hS.frozen 6
        go_enter Tryd.func104, Tryd.ntmps104
        go_upto_region 3 with fail
        obtain ⟨w1, hw1⟩ : ∃ W, w.setCell ⟨g, 6, none⟩ (.bool false) = W := ⟨_, rfl⟩
        have hS1 := hS.set_ 6 (.bool false)
        simp only [List.setIfInBounds_toArray, List.set_cons_succ, List.set_cons_zero] at hS1
        have hg1 := only_setCell (World.grownBy.refl w (some g)) (p := ⟨g, 6, none⟩) (.inl rfl) (.bool false)
        have h11 := own_at h1 hS (by decide) hg1
        have h21 := own_at h2 hS (by decide) hg1
        have b1 := (Below.refl base w).setCell (p := ⟨g, 6, none⟩) hbg (.bool false)
        have I1 := ItK.set hS 6 (.bool false)
        rw [hw1] at hS1 hg1 h11 h21 b1 I1
        rw [hw1]
        clear c4 c6 f6 hw1
        have hS1l := hS1.lt
        have hSa := hS1.alloc (.cells #[.int .i32 c] 21)
        have h1a := own_alloc h11 (.cells #[.int .i32 c] 21)
        have h2a := own_alloc h21 (.cells #[.int .i32 c] 21)
        have ba := b1.alloc (show base ≤ w1.heap.size by omega) (.cells #[.int .i32 c] 21)
        have Ia := ItK.below ((Below.refl w1.heap.size w1).alloc (Nat.le_refl _) (.cells #[.int .i32 c] 21))
        have hcell := hS1.cell 2
        go_wp2_with (at_builtin; refine wpl_appR rfl (.tmp 39) (.tmp 41) 110 rfl 21 (.int .i32 0) 1 4 Tryd.underlying110 i32_info rfl (by omega) base A2 n2 c2 _ (by rfl) h2a (w1.heap.size + 1) (some ⟨w1.heap.size, 0, none⟩) 1 1 [.int .i32 c] (by rfl) (one_reads (Blk.new w1 21 #[.int .i32 c])) (by intro u hu; simp at hu; subst hu; rfl) (by unfold maxLen; omega) (by omega) (by simp; omega) ?_; intro A3 c3 w3 o3 b3 g3 _; have hS3 := hSa.grown g3 (by intro e; first | exact own_blk_ne h2a hSa (by decide) e | exact own_blk_ne h2a hSa (by decide) e.symm); have f2 := hS3.frozen 2; have k2 := hS3.cell 2; have f4 := hS3.frozen 4; have k4 := hS3.cell 4)
        have h13 := own_own h1a h2a (by decide) g3
        have I3 := (I1).trans (Ia.trans (ItK.own h2a g3))
        have b3' := ba.trans b3
        have hS4 := hS3.set_ 2 (.slice A3 (n2 + 1) c3)
        simp only [List.setIfInBounds_toArray, List.set_cons_succ, List.set_cons_zero] at hS4
        have hg4 := only_setCell (World.grownBy.refl w3 (some g)) (p := ⟨g, 2, none⟩) (.inl rfl) (.slice A3 (n2 + 1) c3)
        have h14 := own_at h13 hS3 (by decide) hg4
        have o4 := own_at o3 hS3 (by decide) hg4
        have b4 := b3'.setCell (p := ⟨g, 2, none⟩) hbg (.slice A3 (n2 + 1) c3)
        have I4 := I3.trans (ItK.set hS3 2 (.slice A3 (n2 + 1) c3))
        obtain ⟨w4, hw4⟩ : ∃ W, w3.setCell ⟨g, 2, none⟩ (.slice A3 (n2 + 1) c3) = W := ⟨_, rfl⟩
        rw [hw4] at hS4 h14 o4 b4 I4
        have hS5 := hS4.set_ 4 (.bool false)
        simp only [List.setIfInBounds_toArray, List.set_cons_succ, List.set_cons_zero] at hS5
        have hg5 := only_setCell (World.grownBy.refl w4 (some g)) (p := ⟨g, 4, none⟩) (.inl rfl) (.bool false)
        have h15 := own_at h14 hS4 (by decide) hg5
        have o5 := own_at o4 hS4 (by decide) hg5
        have b5 := b4.setCell (p := ⟨g, 4, none⟩) hbg (.bool false)
        have I5 := I4.trans (ItK.set hS4 4 (.bool false))
        rw [← hw4] at hS5 h15 o5 b5 I5
        go_returns
        exact ⟨rfl, by rw [HE.out]; exact ⟨A1, n1, c1, A3, n2 + 1, c3, hS5, h15, by rw [List.map_append]; exact o5, hbg⟩, b5, I5⟩
      have t1 : (c != 34) = true := by simpa using e1
      by_cases e2 : c = 92
      · have t2 : (c != 92) = false := by simpa using e2
        have HE := Lib.hid (show inSt ⟨out, frm, q, within, true, ended, false⟩ c = ⟨out, frm, q ++ [c], within, false, ended, false⟩ by unfold inSt; simp [e2])
        clear e1 e2
        have c4 := hS.cell 4
        have c6 := hS.cell 6
        have f6 := hS.frozen 6
        go_enter Tryd.func104, Tryd.ntmps104
        go_upto_region 3 with fail
        obtain ⟨w1, hw1⟩ : ∃ W, w.setCell ⟨g, 6, none⟩ (.bool false) = W := ⟨_, rfl⟩
        have hS1 := hS.set_ 6 (.bool false)
        simp only [List.setIfInBounds_toArray, List.set_cons_succ, List.set_cons_zero] at hS1
        have hg1 := only_setCell (World.grownBy.refl w (some g)) (p := ⟨g, 6, none⟩) (.inl rfl) (.bool false)
        have h11 := own_at h1 hS (by decide) hg1
        have h21 := own_at h2 hS (by decide) hg1
        have b1 := (Below.refl base w).setCell (p := ⟨g, 6, none⟩) hbg (.bool false)
        have I1 := ItK.set hS 6 (.bool false)
        rw [hw1] at hS1 hg1 h11 h21 b1 I1
        rw [hw1]
        clear c4 c6 f6 hw1
        have hS1l := hS1.lt
        have hSa := hS1.alloc (.cells #[.int .i32 c] 21)
        have h1a := own_alloc h11 (.cells #[.int .i32 c] 21)
        have h2a := own_alloc h21 (.cells #[.int .i32 c] 21)
        have ba := b1.alloc (show base ≤ w1.heap.size by omega) (.cells #[.int .i32 c] 21)
        have Ia := ItK.below ((Below.refl w1.heap.size w1).alloc (Nat.le_refl _) (.cells #[.int .i32 c] 21))
        have hcell := hS1.cell 2
        go_wp2_with (at_builtin; refine wpl_appR rfl (.tmp 39) (.tmp 41) 110 rfl 21 (.int .i32 0) 1 4 Tryd.underlying110 i32_info rfl (by omega) base A2 n2 c2 _ (by rfl) h2a (w1.heap.size + 1) (some ⟨w1.heap.size, 0, none⟩) 1 1 [.int .i32 c] (by rfl) (one_reads (Blk.new w1 21 #[.int .i32 c])) (by intro u hu; simp at hu; subst hu; rfl) (by unfold maxLen; omega) (by omega) (by simp; omega) ?_; intro A3 c3 w3 o3 b3 g3 _; have hS3 := hSa.grown g3 (by intro e; first | exact own_blk_ne h2a hSa (by decide) e | exact own_blk_ne h2a hSa (by decide) e.symm); have f2 := hS3.frozen 2; have k2 := hS3.cell 2; have f4 := hS3.frozen 4; have k4 := hS3.cell 4)
        have h13 := own_own h1a h2a (by decide) g3
        have I3 := (I1).trans (Ia.trans (ItK.own h2a g3))
        have b3' := ba.trans b3
        have hS4 := hS3.set_ 2 (.slice A3 (n2 + 1) c3)
        simp only [List.setIfInBounds_toArray, List.set_cons_succ, List.set_cons_zero] at hS4
        have hg4 := only_setCell (World.grownBy.refl w3 (some g)) (p := ⟨g, 2, none⟩) (.inl rfl) (.slice A3 (n2 + 1) c3)
        have h14 := own_at h13 hS3 (by decide) hg4
        have o4 := own_at o3 hS3 (by decide) hg4
        have b4 := b3'.setCell (p := ⟨g, 2, none⟩) hbg (.slice A3 (n2 + 1) c3)
        have I4 := I3.trans (ItK.set hS3 2 (.slice A3 (n2 + 1) c3))
        obtain ⟨w4, hw4⟩ : ∃ W, w3.setCell ⟨g, 2, none⟩ (.slice A3 (n2 + 1) c3) = W := ⟨_, rfl⟩
        rw [hw4] at hS4 h14 o4 b4 I4
        have hS5 := hS4.set_ 4 (.bool false)
        simp only [List.setIfInBounds_toArray, List.set_cons_succ, List.set_cons_zero] at hS5
        have hg5 := only_setCell (World.grownBy.refl w4 (some g)) (p := ⟨g, 4, none⟩) (.inl rfl) (.bool false)
        have h15 := own_at h14 hS4 (by decide) hg5
        have o5 := own_at o4 hS4 (by decide) hg5
        have b5 := b4.setCell (p := ⟨g, 4, none⟩) hbg (.bool false)
        have I5 := I4.trans (ItK.set hS4 4 (.bool false))
        rw [← hw4] at hS5 h15 o5 b5 I5
        go_returns
        exact ⟨rfl, by rw [HE.out]; exact ⟨A1, n1, c1, A3, n2 + 1, c3, hS5, h15, by rw [List.map_append]; exact o5, hbg⟩, b5, I5⟩
      have t2 : (c != 92) = true := by simpa using e2
      have HE := Lib.hid (show inSt ⟨out, frm, q, within, true, ended, false⟩ c = ⟨out, frm, q ++ [c], within, false, ended, true⟩ by unfold inSt; simp [e1, e2])
      clear e1 e2
      have c4 := hS.cell 4
      have c6 := hS.cell 6
      have f6 := hS.frozen 6
      go_enter Tryd.func104, Tryd.ntmps104
      go_upto_region 3 with fail
      obtain ⟨w1, hw1⟩ : ∃ W, w.setCell ⟨g, 6, none⟩ (.bool true) = W := ⟨_, rfl⟩
      have hS1 := hS.set_ 6 (.bool true)
      simp only [List.setIfInBounds_toArray, List.set_cons_succ, List.set_cons_zero] at hS1
      have hg1 := only_setCell (World.grownBy.refl w (some g)) (p := ⟨g, 6, none⟩) (.inl rfl) (.bool true)
      have h11 := own_at h1 hS (by decide) hg1
      have h21 := own_at h2 hS (by decide) hg1
      have b1 := (Below.refl base w).setCell (p := ⟨g, 6, none⟩) hbg (.bool true)
      have I1 := ItK.set hS 6 (.bool true)
      rw [hw1] at hS1 hg1 h11 h21 b1 I1
      rw [hw1]
      clear c4 c6 f6 hw1
      have hS1l := hS1.lt
      have hSa := hS1.alloc (.cells #[.int .i32 c] 21)
      have h1a := own_alloc h11 (.cells #[.int .i32 c] 21)
      have h2a := own_alloc h21 (.cells #[.int .i32 c] 21)
      have ba := b1.alloc (show base ≤ w1.heap.size by omega) (.cells #[.int .i32 c] 21)
      have Ia := ItK.below ((Below.refl w1.heap.size w1).alloc (Nat.le_refl _) (.cells #[.int .i32 c] 21))
      have hcell := hS1.cell 2
      go_wp2_with (at_builtin; refine wpl_appR rfl (.tmp 39) (.tmp 41) 110 rfl 21 (.int .i32 0) 1 4 Tryd.underlying110 i32_info rfl (by omega) base A2 n2 c2 _ (by rfl) h2a (w1.heap.size + 1) (some ⟨w1.heap.size, 0, none⟩) 1 1 [.int .i32 c] (by rfl) (one_reads (Blk.new w1 21 #[.int .i32 c])) (by intro u hu; simp at hu; subst hu; rfl) (by unfold maxLen; omega) (by omega) (by simp; omega) ?_; intro A3 c3 w3 o3 b3 g3 _; have hS3 := hSa.grown g3 (by intro e; first | exact own_blk_ne h2a hSa (by decide) e | exact own_blk_ne h2a hSa (by decide) e.symm); have f2 := hS3.frozen 2; have k2 := hS3.cell 2; have f4 := hS3.frozen 4; have k4 := hS3.cell 4)
      have h13 := own_own h1a h2a (by decide) g3
      have I3 := (I1).trans (Ia.trans (ItK.own h2a g3))
      have b3' := ba.trans b3
      have hS4 := hS3.set_ 2 (.slice A3 (n2 + 1) c3)
      simp only [List.setIfInBounds_toArray, List.set_cons_succ, List.set_cons_zero] at hS4
      have hg4 := only_setCell (World.grownBy.refl w3 (some g)) (p := ⟨g, 2, none⟩) (.inl rfl) (.slice A3 (n2 + 1) c3)
      have h14 := own_at h13 hS3 (by decide) hg4
      have o4 := own_at o3 hS3 (by decide) hg4
      have b4 := b3'.setCell (p := ⟨g, 2, none⟩) hbg (.slice A3 (n2 + 1) c3)
      have I4 := I3.trans (ItK.set hS3 2 (.slice A3 (n2 + 1) c3))
      obtain ⟨w4, hw4⟩ : ∃ W, w3.setCell ⟨g, 2, none⟩ (.slice A3 (n2 + 1) c3) = W := ⟨_, rfl⟩
      rw [hw4] at hS4 h14 o4 b4 I4
      have hS5 := hS4.set_ 4 (.bool false)
      simp only [List.setIfInBounds_toArray, List.set_cons_succ, List.set_cons_zero] at hS5
      have hg5 := only_setCell (World.grownBy.refl w4 (some g)) (p := ⟨g, 4, none⟩) (.inl rfl) (.bool false)
      have h15 := own_at h14 hS4 (by decide) hg5
      have o5 := own_at o4 hS4 (by decide) hg5
      have b5 := b4.setCell (p := ⟨g, 4, none⟩) hbg (.bool false)
      have I5 := I4.trans (ItK.set hS4 4 (.bool false))
      rw [← hw4] at hS5 h15 o5 b5 I5
      go_returns
      exact ⟨rfl, by rw [HE.out]; exact ⟨A1, n1, c1, A3, n2 + 1, c3, hS5, h15, by rw [List.map_append]; exact o5, hbg⟩, b5, I5⟩
end Go.Proofs.YtnhkpnohadbcdaaDoor
