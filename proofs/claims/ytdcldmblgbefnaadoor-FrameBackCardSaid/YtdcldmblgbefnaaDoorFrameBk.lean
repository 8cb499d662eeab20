/- The walk of the law FrameBack. Conditions: the table of least lengths (LeaTab). -/
import Derived.Test.YtdcldmblgbefnaaDoorProg
import Derived.WalkKit
import Derived.WalkSpells
import Derived.WalkLawsBesides
import Derived.Outline
import Derived.Deep.QuietTactic
import Derived.BigQuiet
import Derived.Handy
import Derived.Lib.Hide
import Derived.Deep.RegionHeld3
import Derived.Test.YtdcldmblgbefnaaDoorFrameNob
import Derived.Test.YtdcldmblgbefnaaDoorBackLaw
import Derived.Test.YtdcldmblgbefnaaDoorOpenMsgs
namespace Go.Proofs.YtdcldmblgbefnaaDoor
open Go.RowKit
theorem keepB {w W W' : World} {x y : Value} {p q : Addr} (hp : p.block < w.heap.size) (hq : q.block < w.heap.size) (hb : Below W.heap.size W W') (h : Below w.heap.size w W ∧ W.cell? p = some x ∧ W.cell? q = some y) :
    Below w.heap.size w W' ∧ W'.cell? p = some x ∧ W'.cell? q = some y :=
  ⟨btr h.1 hb h.1.size, (hb.cell (Nat.lt_of_lt_of_le hp h.1.size)).trans h.2.1, (hb.cell (Nat.lt_of_lt_of_le hq h.1.size)).trans h.2.2⟩
theorem own_two {w : World} {b1 b2 s1 s2 n1 n2 : Nat} {e1 e2 : TypeId} {v1 v2 : Value} {x1 x2 : List Value} (h : w.ownsRow b1 e1 s1 v1 n1 x1) (h' : w.ownsRow b2 e2 s2 v2 n2 x2) (hne : e1 ≠ e2) : v1.ownBlock = none ∨ v1.ownBlock ≠ v2.ownBlock := by
  rcases h.2 with ⟨rfl, _⟩ | ⟨g, cap, cur, rfl, _, hg, _⟩
  · exact .inl rfl
  · right
    rcases h'.2 with ⟨rfl, _⟩ | ⟨g', cap', cur', rfl, _, hg', _⟩
    · simp [Value.ownBlock]
    · intro e
      have e : g = g' := by simpa [Value.ownBlock] using e
      subst e
      rw [hg] at hg'
      injection hg' with hg'
      injection hg' with _ ht
      exact hne ht
/-- Messages of the call's own, whose bytes lie below all that is the call's own. -/
def OW (w : World) (B : Nat) (A : Option Addr) (n c : Nat) (ms : List (Int × List UInt8)) : Prop := ∃ vs, n = ms.length ∧ w.ownsRow B 89 2 (.slice A n c) n (mv vs) ∧ MB w B none vs ms
section
variable {w w' : World} {B n c : Nat} {A : Option Addr} {ms : List (Int × List UInt8)}
theorem OW.nil_ : OW w B none 0 0 [] := ⟨[], rfl, World.ownsRow_nil _ _ _ _, MB.nil_⟩
theorem OW.len (h : OW w B A n c ms) : n = ms.length := by obtain ⟨_, h, _⟩ := h; exact h
theorem OW.call (h : OW w B A n c ms) (hb : Below w.heap.size w w') (hB : B ≤ w.heap.size) : OW w' B A n c ms := by
  obtain ⟨vs, h1, h2, h3⟩ := h
  exact ⟨vs, h1, own_below h2 hb, h3.below (hb.mono hB)⟩
theorem OW.beside {b' n' c' : Nat} {T : TypeId} {A' : Option Addr} {l : List UInt8} (h : OW w B A n c ms) (ho : OB w T b' A' n' c' l) (hne : 89 ≠ T) (hg : w.grownBy w' (Value.ownBlock (.slice A' n' c'))) (hb : Below B w w') : OW w' B A n c ms := by
  obtain ⟨vs, h1, h2, h3⟩ := h
  exact ⟨vs, h1, h2.kept hg (own_two h2 ho.2 hne), h3.below hb⟩
theorem OW.form (h : OW w B A n c ms) {j : Nat} {m : Int × List UInt8} (hj : ms[j]? = some m) : ∃ g A' n' c', A = some ⟨g, 0, none⟩ ∧ g < w.heap.size ∧ w.cell? ⟨g, j * 2, none⟩ = some (.int .i64 m.1) ∧ w.cell? ⟨g, j * 2 + 1, none⟩ = some (.slice A' n' c') ∧ BS w B A' n' m.2 := by
  obtain ⟨vs, h1, h2, h3⟩ := h
  have hjl := (List.getElem?_eq_some_iff.1 hj).1
  obtain ⟨g, cap, hv, _, hlt⟩ := h2.form (by omega)
  have hA : A = some ⟨g, 0, none⟩ := by injection hv
  subst hA
  have hjv : j < vs.length := by rw [h3.1]; exact hjl
  obtain ⟨e, A', n', c', e2, hs, _⟩ := h3.2 j (vs[j]) m (List.getElem?_eq_getElem hjv) hj
  obtain ⟨k1, k2⟩ := mv_at vs j _ (List.getElem?_eq_getElem hjv)
  rw [Nat.mul_comm] at k1 k2
  refine ⟨g, A', n', c', rfl, hlt, ?_, ?_, hs⟩
  · rw [h2.cellAt (j * 2) (by omega), k1, e]
  · rw [h2.cellAt (j * 2 + 1) (by omega), k2, e2]
theorem wpl_appW {P : Program} {ops : Array Oper} {rest : List Oper} {o : Oper} {a : Act} {Q : Exit → Act → World → Prop} (hgd : o.guard = none) (s x : Operand) (t : TypeId)
    (ho : o.op = .call { callee := .builtin .append, args := #[s, x], argTypes := #[t, t] })
    (ht : P.underlying t = some (.slice 89)) (hinfo : (P.info? 89).map (fun i => (i.zero, i.size, i.bytes)) = some (some (.agg #[.int .i64 0, .slice none 0 0]), 2, 32))
    (B : Nat) (A : Option Addr) (n c : Nat) (ms : List (Int × List UInt8)) (hs : a.eval s = .slice A n c) (h : OW w B A n c ms) (A' : Option Addr) (c' g : Nat) (hx : a.eval x = .slice A' 1 c') (K : Int) (Ab : Option Addr) (nb cb : Nat) (b : List UInt8) (hr : Reads w g 2 A' 1 [.int .i64 K, .slice Ab nb cb]) (hb : BS w B Ab nb b)
    (hlen : ms.length ≤ 100000) (hbase : B ≤ w.heap.size)
    (hk : ∀ (A2 : Option Addr) (c2 : Nat) (w' : World), OW w' B A2 (n + 1) c2 (ms ++ [(K, b)]) → Below B w w' → (∀ (T : TypeId) (b' : Nat) (Ao : Option Addr) (no co : Nat) (lo : List UInt8), 89 ≠ T → OB w T b' Ao no co lo → OB w' T b' Ao no co lo) → wpList P ops Q rest (a.put o.dst (.slice A2 (n + 1) c2)) w') : wpList P ops Q (o :: rest) a w := by
  obtain ⟨vs, h1, h2, h3⟩ := h
  refine wpl_appR hgd s x t ho 89 _ 2 32 ht hinfo rfl (by omega) B A n c (mv vs) hs h2 g A' 1 c' _ hx hr ?_ (by unfold maxLen; omega) (by omega) hbase ?_
  · intro u hu
    simp at hu
    rcases hu with rfl | rfl <;> rfl
  · intro A2 c2 w' o' b' g' hat
    exact hk A2 c2 w' ⟨vs ++ [(K, .slice Ab nb cb)], by simp [h1], by rw [mv_append]; exact o', (h3.snoc (c := cb) (K := K) hb far_none).below b'⟩ b' (fun T b1 Ao no co lo hne ho => ⟨ho.1, ho.2.kept g' (own_two ho.2 h2 hne.symm)⟩)
end
theorem fpOut_len {k : Int} {l : List UInt8} (h : fpE k l.length = 0) : (fpOut k l).length = 19 + l.length := by
  unfold fpE at h
  have h2 : leastOf k ≠ 0 := fun e => by rw [if_pos e] at h; omega
  rw [if_neg h2] at h
  have h3 : ¬ 4077 < l.length := fun e => by rw [if_pos e] at h; omega
  unfold fpOut
  rw [if_neg (by rintro (e | e); exact h2 e; exact h3 e)]
  simp [b16]
  omega
theorem BS.one_ {w : World} {B g n j : Nat} {l : List UInt8} {x : UInt8} (h : BS w B (some ⟨g, 0, none⟩) n l) (hj : l[j]? = some x) : BS w B (some ⟨g, j, none⟩) 1 [x] := by
  have hjl := (List.getElem?_eq_some_iff.1 hj)
  obtain ⟨hjl, hx⟩ := hjl
  have hn := h.len
  have h1 := (h.drop_ (k := j) (c := n + 1) (by omega) (by omega)).take_ (k := 1) (by omega)
  rw [if_neg (by omega), List.drop_eq_getElem_cons hjl, hx] at h1
  have e : (some (⟨g, 0, none⟩ : Addr)).map (·.add j) = some ⟨g, j, none⟩ := by
    unfold Addr.add
    simp only [Option.map_some]
    split <;> simp_all
  rw [e] at h1
  simpa using h1
set_option maxHeartbeats 4000000 in
set_option maxRecDepth 100000 in
theorem lawFrameBack (w : World) (A : Option Addr) (n c : Nat) (ms : List (Int × List UInt8)) (h : MR w A n ms) (_ : n ≤ c) (_ : c ≤ maxLen) (ht : LeaTab w) :
    Calls Tryd.prog 20 #[.slice A n c] w fun en w' => en = .returned (.bool true) ∧ Below w.heap.size w w' := by
  by_cases hn : n ≤ 8
  · have hni : (n : Int) ≤ 8 := by omega
    go_enter Tryd.func20, Tryd.ntmps20
    go_wp2_with fail
    go_loopw [3, 4, 5] (fun all want i wr => ∃ (j : Nat) (Aa : Option Addr) (na ca : Nat) (La : List UInt8) (Aw : Option Addr) (nw cw : Nat) (Ms : List (Int × List UInt8)), j ≤ n ∧ i = .int .i64 j ∧ all = .slice Aa na ca ∧ want = .slice Aw nw cw ∧ OB wr 5 w.heap.size Aa na ca La ∧ OW wr w.heap.size Aw nw cw Ms ∧ Below w.heap.size w wr ∧ Hid (La = Ms.flatMap putM ∧ (∀ m ∈ Ms, LG m) ∧ Ms.length ≤ j ∧ La.length ≤ 500 * j)) (fun _ _ i _ => n - (intOf i).toNat)
    case atStart => exact ⟨0, none, 0, 0, [], none, 0, 0, [], by omega, rfl, rfl, rfl, OB.nil_, OW.nil_, Below.refl _ _, Lib.hid ⟨rfl, by simp, by simp, by simp⟩⟩
    case round =>
      obtain ⟨j, Aa, na, ca, La, Aw, nw, cw, Ms, hj, rfl, rfl, rfl, hA, hW, hb, hI⟩ := hrel
      by_cases hlt : j < n
      · obtain ⟨m, hm⟩ : ∃ m, ms[j]? = some m := ⟨_, List.getElem?_eq_getElem (by rw [← h.1]; exact hlt)⟩
        obtain ⟨b, off, A1, n1, c1, rfl, hbl, e1, e2, s1, hnc1⟩ := h.2 j m hm
        obtain ⟨K, l⟩ := m
        dsimp only at e1 e2 s1
        clear hm
        have e1w := (hb.cell (p := ⟨b, off + j * 2, none⟩) hbl).trans e1
        have e2w := (hb.cell (p := ⟨b, off + j * 2 + 1, none⟩) hbl).trans e2
        have hbr : b < wr.heap.size := Nat.lt_of_lt_of_le hbl hb.size
        by_cases h400 : n1 ≤ 400
        · have h400i : (n1 : Int) ≤ 400 := by omega
          go_wp2_with fail
          go_region_held3 (fun w' => Below wr.heap.size wr w' ∧ w'.cell? ⟨b, off + j * 2, none⟩ = some (.int .i64 K) ∧ w'.cell? ⟨b, off + j * 2 + 1, none⟩ = some (.slice A1 n1 c1))
            (first | (refine keepB hbr hbr b2 ?_; assumption) | ((repeat' apply And.intro) <;> first | (with_reducible exact Below.drew (Below.refl _ _)) | go_keep))
            ((go_at_call 59; refine (framePut K A1 n1 c1 l _ (ht.call (btr hb (And.left (by with_reducible assumption)) hb.size)) (s1.call (btr hb (And.left (by with_reducible assumption)) hb.size)) (by omega)).mono ?_; rintro _ w2 ⟨A2, n2, c2, rfl, o2, b2⟩))
          all_goals
            have kW : Below wr.heap.size wr w2 := And.left (by with_reducible assumption)
            have bw2 := btr hb kW hb.size
            have hA2 := hA.below kW
            have hW2 := hW.call kW hb.size
            have t2 := ht.call bw2
            have e12 := (bw2.cell (p := ⟨b, off + j * 2, none⟩) hbl).trans e1
            have HLL := Lib.hid (show l.length ≤ 400 by rw [← s1.len]; exact h400)
            obtain ⟨E, hE⟩ : ∃ E, fpE K l.length = E := ⟨_, rfl⟩
            obtain ⟨Y, hY⟩ : ∃ Y, leastOf K = Y := ⟨_, rfl⟩
            have HE := Lib.hid hE
            have HY := Lib.hid hY
            rw [hE]
            clear hE hY
            by_cases hE0 : E = 0
            · subst hE0
              have HN2 := Lib.hid (show n2 = 19 + l.length by rw [o2.1]; exact fpOut_len HE.out)
              by_cases hlY : (n2 : Int) < Y
              · go_wp2_with (go_at_call 61; refine (frameLeast K _ t2).mono ?_; rw [HY.out]; rintro _ _ ⟨rfl, rfl⟩)
                go_roundw
                case rel => exact ⟨j + 1, Aa, na, ca, La, Aw, nw, cw, Ms, by omega, by go_num, rfl, rfl, hA2, hW2, bw2, Lib.hid ⟨hI.out.1, hI.out.2.1, by have := hI.out.2.2.1; omega, by have := hI.out.2.2.2; omega⟩⟩
                case measure => simp [intOf]; omega
              · by_cases hK : K = 4 ∧ 19 < (n2 : Int)
                · obtain ⟨rfl, hn19⟩ := hK
                  go_wp2_with (go_at_call 61; refine (frameLeast 4 _ t2).mono ?_; rw [HY.out]; rintro _ _ ⟨rfl, rfl⟩)
                  go_roundw
                  case rel => exact ⟨j + 1, Aa, na, ca, La, Aw, nw, cw, Ms, by omega, by go_num, rfl, rfl, hA2, hW2, bw2, Lib.hid ⟨hI.out.1, hI.out.2.1, by have := hI.out.2.2.1; omega, by have := hI.out.2.2.2; omega⟩⟩
                  case measure => simp [intOf]; omega
                · have HLG : Hid (LG (K, l)) := Lib.hid ⟨HE.out, by have := HN2.out; rw [HY.out]; simp only; omega, fun h4 => by
                    have := HN2.out
                    have h4 : K = 4 := h4
                    simp only
                    omega⟩
                  have HLA := Lib.hid (show La.length + (fpOut K l).length ≤ 140737488355328 by have := hI.out.2.2.2; rw [fpOut_len HE.out]; have := HLL.out; omega)
                  have HMS := Lib.hid (show Ms.length ≤ 100000 by have := hI.out.2.2.1; omega)
                  have HREL := Lib.hid (show La ++ fpOut K l = (Ms ++ [(K, l)]).flatMap putM ∧ (∀ m ∈ Ms ++ [(K, l)], LG m) ∧ (Ms ++ [(K, l)]).length ≤ j + 1 ∧ (La ++ fpOut K l).length ≤ 500 * (j + 1) by
                    refine ⟨by rw [hI.out.1]; simp [putM], fun m hm => ?_, by have := hI.out.2.2.1; simp; omega, by have := hI.out.2.2.2; have := HLL.out; rw [List.length_append, fpOut_len HE.out]; omega⟩
                    rw [List.mem_append, List.mem_singleton] at hm
                    rcases hm with hm | rfl
                    · exact hI.out.2.1 m hm
                    · exact HLG.out)
                  by_cases hK4 : K = 4
                  · have hn19 : ¬ (19 : Int) < n2 := fun hh => hK ⟨hK4, hh⟩
                    subst hK4
                    clear hK
                    go_wp2_with (first
                      | (go_at_call 61; refine (frameLeast 4 _ t2).mono ?_; rw [HY.out]; rintro _ _ ⟨rfl, rfl⟩)
                      | (at_builtin; refine wpl_app rfl (.tmp 72) (.tmp 73) _ rfl 5 Tryd.underlying27 u8info w.heap.size Aa na ca La (by rfl) hA2 w2.heap.size A2 n2 c2 (fpOut 4 l) (by rfl) o2.bs HLA.out bw2.size ?_; intro A3 n3 c3 w3 o3 b3 g3; have bw3 := bw2.trans b3; have hW3 := hW2.beside hA2 (by decide) g3 b3; have e13 := (bw3.cell (p := ⟨b, off + j * 2, none⟩) hbl).trans e1; have e23 := (bw3.cell (p := ⟨b, off + j * 2 + 1, none⟩) hbl).trans e2; have k4 := (Below.refl w3.heap.size w3).alloc (Nat.le_refl _) (.cells #[.int .i64 4, .slice A1 n1 c1] 89); have hW4 := hW3.call k4 bw3.size; have o4 := o3.alloc (.cells #[.int .i64 4, .slice A1 n1 c1] 89); have bw4 := btr bw3 k4 bw3.size; have hR4 := Reads.two w3 89 (.int .i64 4) (.slice A1 n1 c1) rfl; have s4 := s1.below bw4; have z4 := bw4.size)
                      | (at_builtin; refine wpl_appW rfl (.tmp 75) (.tmp 80) _ rfl Tryd.underlying83 msginfo w.heap.size Aw nw cw Ms (by rfl) hW4 _ _ _ (by rfl) 4 A1 n1 c1 l hR4 s4 HMS.out z4 ?_; intro A5 c5 w5 o5 b5 kp5; have bw5 := bw4.trans b5; have hA5 := kp5 _ _ _ _ _ _ (by decide) o4))
                    go_roundw
                    case rel => exact ⟨j + 1, A3, n3, c3, La ++ fpOut 4 l, A5, nw + 1, c5, Ms ++ [(4, l)], by omega, by go_num, rfl, rfl, hA5, o5, bw5, HREL⟩
                    case measure => simp [intOf]; omega
                  · clear hK
                    have hk4 : (K == 4) = false := by simpa using hK4
                    go_wp2_with (first
                      | (go_at_call 61; refine (frameLeast K _ t2).mono ?_; rw [HY.out]; rintro _ _ ⟨rfl, rfl⟩)
                      | (at_builtin; refine wpl_app rfl (.tmp 72) (.tmp 73) _ rfl 5 Tryd.underlying27 u8info w.heap.size Aa na ca La (by rfl) hA2 w2.heap.size A2 n2 c2 (fpOut K l) (by rfl) o2.bs HLA.out bw2.size ?_; intro A3 n3 c3 w3 o3 b3 g3; have bw3 := bw2.trans b3; have hW3 := hW2.beside hA2 (by decide) g3 b3; have e13 := (bw3.cell (p := ⟨b, off + j * 2, none⟩) hbl).trans e1; have e23 := (bw3.cell (p := ⟨b, off + j * 2 + 1, none⟩) hbl).trans e2; have k4 := (Below.refl w3.heap.size w3).alloc (Nat.le_refl _) (.cells #[.int .i64 K, .slice A1 n1 c1] 89); have hW4 := hW3.call k4 bw3.size; have o4 := o3.alloc (.cells #[.int .i64 K, .slice A1 n1 c1] 89); have bw4 := btr bw3 k4 bw3.size; have hR4 := Reads.two w3 89 (.int .i64 K) (.slice A1 n1 c1) rfl; have s4 := s1.below bw4; have z4 := bw4.size)
                      | (at_builtin; refine wpl_appW rfl (.tmp 75) (.tmp 80) _ rfl Tryd.underlying83 msginfo w.heap.size Aw nw cw Ms (by rfl) hW4 _ _ _ (by rfl) K A1 n1 c1 l hR4 s4 HMS.out z4 ?_; intro A5 c5 w5 o5 b5 kp5; have bw5 := bw4.trans b5; have hA5 := kp5 _ _ _ _ _ _ (by decide) o4))
                    go_roundw
                    case rel => exact ⟨j + 1, A3, n3, c3, La ++ fpOut K l, A5, nw + 1, c5, Ms ++ [(K, l)], by omega, by go_num, rfl, rfl, hA5, o5, bw5, HREL⟩
                    case measure => simp [intOf]; omega
            · have hc : (E != 0) = true := by simpa using hE0
              go_wp2_with fail
              go_roundw
              case rel => exact ⟨j + 1, Aa, na, ca, La, Aw, nw, cw, Ms, by omega, by go_num, rfl, rfl, hA2, hW2, bw2, Lib.hid ⟨hI.out.1, hI.out.2.1, by have := hI.out.2.2.1; omega, by have := hI.out.2.2.2; omega⟩⟩
              case measure => simp [intOf]; omega
        · have h400i : 400 < (n1 : Int) := by omega
          go_wp2_with fail
          refine (awake07 _ (ht.call hb)).mono ?_
          rintro _ w5 ⟨rfl, b5⟩
          go_wp2_with fail
          go_ret
          exact ⟨rfl, btr hb b5 hb.size⟩
      · have hj' : j = n := by omega
        subst hj'
        go_wp2_with fail
        obtain ⟨w1, rfl⟩ : ∃ w1, w1 = wr := ⟨_, rfl⟩
        have hna : na = La.length := hA.1
        have HNA := Lib.hid hna
        have HMB := Lib.hid (show na ≤ 4000 by rw [hna]; have := hI.out.2.2.2; omega)
        have hna4 : na ≤ 4000 := HMB.out
        clear hna
        have hcap := hA.cap
        refine (frameNew w1).mono ?_
        rintro _ w2 ⟨g, rfl, hg, hG, b2⟩
        have hS2 : SM w2 g [] 0 0 [] := ⟨none, 0, 0, none, 0, 0, hG, Nat.le_refl _, BS.none_, BS.none_, far_none⟩
        have hgs := hb.size
        have HBK := Lib.hid (show BK Ms [] La by rw [hI.out.1]; exact BK.start hI.out.2.1)
        have HNW := Lib.hid hW.len
        have hnw8 : nw ≤ 8 := by rw [HNW.out]; have := hI.out.2.2.1; omega
        clear hG
        go_wp2_with fail
        go_loopw [9, 10] (fun at_ i wq => ∃ (k p : Nat) (y : List UInt8) (Rs : List (Int × List UInt8)), k ≤ na ∧ p ≤ nw ∧ i = .int .i64 k ∧ at_ = .int .i64 p ∧ SM wq g y 0 0 [] ∧ Below w1.heap.size w1 wq ∧ Hid (BK Rs y (La.drop k) ∧ Rs = Ms.drop p ∧ y.length ≤ k)) (fun _ i _ => na - (intOf i).toNat)
        case atStart => exact ⟨0, 0, [], Ms, by omega, by omega, rfl, rfl, hS2, b2, Lib.hid ⟨HBK.out, rfl, by simp⟩⟩
        case round =>
          obtain ⟨k, p, y, Rs, hk, hp, rfl, rfl, hS, hbq, hR⟩ := hrel
          have bwq := btr hb hbq hb.size
          by_cases hkn : k < na
          · obtain ⟨ga, capa, hva, _, hga⟩ := hA.2.form (by omega)
            have hAa : Aa = some ⟨ga, 0, none⟩ := by injection hva
            subst hAa
            clear hva
            obtain ⟨x, hx⟩ : ∃ x, La[k]? = some x := ⟨_, List.getElem?_eq_getElem (by rw [← HNA.out]; exact hkn)⟩
            have s1 := ((hA.bs.one_ hx).below hbq).more hbq.size
            have HD := Lib.hid (show La.drop k = x :: La.drop (k + 1) by
              obtain ⟨h1, h2⟩ := List.getElem?_eq_some_iff.1 hx
              rw [List.drop_eq_getElem_cons h1, h2])
            clear hx
            have HYL := Lib.hid (show y.length ≤ 4000 by have := hR.out.2.2; omega)
            have hk1 : (k : Int) + 1 ≤ ca := by omega
            have hk2 : (k : Int) ≤ (k : Int) + 1 := by omega
            have hk3 : ¬ ca = k := by omega
            have hst := hR.out.1
            rw [HD.out] at hst
            have HST := Lib.hid hst.step
            clear hst
            go_wp2_with fail
            refine (streamFeed g y 0 [] (some ⟨ga, k, none⟩) 1 (ca - k) [x] _ none (fun _ hk => by cases hk) hS s1 (by have := HYL.out; omega) (by omega)).mono ?_
            rintro _ w4 ⟨rfl, hS4, g4⟩
            have b14 := below_grown hbq g4 hg hbq.size
            have bw4 := btr hb b14 hb.size
            have t4 := ht.call bw4
            rcases HST.out with ⟨m, Rs', hRs, hnx, hlen, hBK⟩ | ⟨hc0, hm0, hBK⟩
            · obtain ⟨K, l⟩ := m
              have hnx1 : (nextR (y ++ [x])).1 = K := by rw [hnx]
              have hnx2 : (nextR (y ++ [x])).2.1 = l := by rw [hnx]
              have hnx3 : (nextR (y ++ [x])).2.2.1 = ((19 + l.length : Nat) : Int) := by rw [hnx]; simp
              have hdr : (y ++ [x]).drop (19 + l.length) = [] := List.drop_of_length_le (by rw [hlen]; exact Nat.le_refl _)
              have hgm : Ms[p]? = some (K, l) := by
                have h1 := hR.out.2.1
                rw [hRs] at h1
                have h2 := congrArg (fun z => z[0]?) h1
                simp only [List.getElem?_cons_zero, List.getElem?_drop, Nat.add_zero] at h2
                exact h2.symm
              have HRS := Lib.hid (show Rs' = Ms.drop (p + 1) by
                have h1 := hR.out.2.1
                rw [hRs] at h1
                rw [← List.drop_drop, ← h1]
                simp)
              have hpw : p < nw := by rw [HNW.out]; exact (List.getElem?_eq_some_iff.1 hgm).1
              have hpwi : (p : Int) < nw := by omega
              have HBK2 := Lib.hid hBK
              have hl4 : (y ++ [x]).length ≤ 100000 := by have := HYL.out; rw [List.length_append]; simp; omega
              have HX1 := Lib.hid hnx1
              have HX2 := Lib.hid hnx2
              have HX3 := Lib.hid hnx3
              have HDR := Lib.hid hdr
              have HL4 := Lib.hid hl4
              clear hnx hnx1 hnx2 hnx3 hdr hlen hRs hBK hl4 HST
              go_wp2_with fail
              refine (streamNext_msg g (y ++ [x]) 0 [] w4 none hS4 t4 HL4.out (19 + l.length) HX3.out (by omega)).mono ?_
              rintro _ w5 ⟨A5, n5, c5, rfl, _, o5, hS5, g5, _⟩
              rw [HX1.out]
              rw [HX2.out] at o5
              rw [HDR.out] at hS5
              have b15 := below_grown b14 g5 hg b14.size
              have hW5 := hW.call b15 hb.size
              obtain ⟨gw, A6, n6, c6, rfl, hgw, e61, e62, s6⟩ := hW5.form hgm
              dsimp only at e61 e62 s6
              have s6' := s6.more (B' := w5.heap.size) (Nat.le_trans hgs b15.size)
              clear hgm hW5
              go_wp2_with (go_at_call 32; refine (ref01Same A5 A6 n5 n6 c5 c6 _ _ _ _ _ o5 s6').mono ?_; simp only [beq_self_eq_true]; rintro _ _ ⟨rfl, rfl⟩)
              go_roundw
              case rel => exact ⟨k + 1, p + 1, [], Rs', by omega, by omega, by go_num, by go_num, hS5, b15, Lib.hid ⟨HBK2.out, HRS.out, by simp⟩⟩
              case measure => simp [intOf]; omega
            · have HL4 := Lib.hid (show (y ++ [x]).length ≤ 100000 by have := HYL.out; rw [List.length_append]; simp; omega)
              have HBK2 := Lib.hid hBK
              have HC := Lib.hid hc0
              have HM := Lib.hid hm0
              clear hc0 hm0 hBK HST
              go_wp2_with fail
              refine (streamNext_none g (y ++ [x]) 0 [] w4 none hS4 t4 HL4.out HC.out HM.out).mono ?_
              rintro _ w5 ⟨rfl, hS5, g5⟩
              have b15 := below_grown b14 g5 hg b14.size
              go_wp2_with fail
              go_roundw
              case rel => exact ⟨k + 1, p, y ++ [x], Rs, by omega, by omega, by go_num, rfl, hS5, b15, Lib.hid ⟨HBK2.out, hR.out.2.1, by have := hR.out.2.2; rw [List.length_append]; simp; omega⟩⟩
              case measure => simp [intOf]; omega
          · have hk' : k = na := by omega
            have hfin := hR.out.1
            rw [List.drop_of_length_le (by rw [hk', ← HNA.out]; exact Nat.le_refl _)] at hfin
            obtain ⟨hRs0, hy0⟩ := hfin.fin
            have hpn : p = nw := by
              have h1 := hR.out.2.1
              rw [hRs0] at h1
              have h2 := congrArg List.length h1
              rw [List.length_drop, List.length_nil] at h2
              have := HNW.out
              omega
            clear hRs0 hfin
            subst hy0 hpn hk'
            have hSS := hS
            obtain ⟨Ay, ny, cy, Az, nz, cz, hBy, _, hy, hz, _⟩ := hS
            obtain rfl : ny = 0 := hy.len
            have e4 := fault_code0 (.int .i64 0) (.int .i64 0)
            clear hy hz
            go_wp2_with (first
              | (go_at_call 81; refine (streamLeft g Ay 0 cy _ _ _ _ hBy).mono ?_; rintro _ _ ⟨rfl, rfl⟩)
              | (go_at_call 80; refine (streamFault g [] 0 0 [] _ none hSS (by simp)).mono ?_; rintro _ w6 ⟨A6, n6, c6, rfl, _, b6⟩; have bw6 := btr bwq b6 bwq.size)
              | (go_at_call 58; refine (awake07 _ (ht.call bw6)).mono ?_; rintro _ w7 ⟨rfl, b7⟩; have bw7 := btr bw6 b7 bw6.size))
            go_ret
            exact ⟨rfl, bw7⟩
  · have hni : 8 < (n : Int) := by omega
    go_enter Tryd.func20, Tryd.ntmps20
    go_wp2_with fail
    refine (awake07 _ ht).mono ?_
    rintro _ w5 ⟨rfl, b5⟩
    go_wp2_with fail
    go_ret
    exact ⟨rfl, b5⟩
end Go.Proofs.YtdcldmblgbefnaaDoor
