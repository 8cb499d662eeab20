/- Walks of layer 12 (filter): Drop, and the document's. No conditions but sizes. -/
import Derived.Test.YtnhkpnohadbcdaaDoorProg
import Derived.WalkKit
import Derived.WalkSpells
import Derived.WalkLawsBesides
import Derived.Outline
import Derived.Deep.QuietTactic
import Derived.BigQuiet
import Derived.Handy
import Derived.Lib.Hide
import Derived.Test.YtnhkpnohadbcdaaDoorFilJ
namespace Go.Proofs.YtnhkpnohadbcdaaDoor
open Go.RowKit
set_option linter.unusedSimpArgs false
def keepN (c x : Int) : Bool := x != c
def dropN (l : List Int) (c : Int) : List Int := l.filter (keepN c)
/-- The row while it is being written: the first i are what stays of the first j; from j on it is as it was. -/
def DI (d : List Int) (c : Int) (cs : Array Value) (i j : Nat) : Prop :=
  i = ((d.take j).filter (keepN c)).length ∧ (∀ (t : Nat) (x : Int), ((d.take j).filter (keepN c))[t]? = some x → cs[t]? = some (Value.int .u32 x)) ∧ ∀ (t : Nat) (x : Int), j ≤ t → d[t]? = some x → cs[t]? = some (Value.int .u32 x)
theorem take_keep {d : List Int} {c : Int} {j : Nat} {x : Int} (hj : d[j]? = some x) (hx : keepN c x = true) : (d.take (j + 1)).filter (keepN c) = (d.take j).filter (keepN c) ++ [x] := by
  obtain ⟨h1, h2⟩ := List.getElem?_eq_some_iff.1 hj
  rw [List.take_succ_eq_append_getElem h1, h2, List.filter_append, List.filter_cons, hx]
  rfl
theorem take_drop_ {d : List Int} {c : Int} {j : Nat} {x : Int} (hj : d[j]? = some x) (hx : keepN c x = false) : (d.take (j + 1)).filter (keepN c) = (d.take j).filter (keepN c) := by
  obtain ⟨h1, h2⟩ := List.getElem?_eq_some_iff.1 hj
  rw [List.take_succ_eq_append_getElem h1, h2, List.filter_append, List.filter_cons, hx]
  simp
theorem DI.le {d : List Int} {c : Int} {cs : Array Value} {i j : Nat} (h : DI d c cs i j) : i ≤ j := by
  rw [h.1]
  exact Nat.le_trans (List.length_filter_le _ _) (List.length_take_le _ _)
theorem DI.drop_ {d : List Int} {c : Int} {cs : Array Value} {i j : Nat} {x : Int} (h : DI d c cs i j) (hj : d[j]? = some x) (hx : keepN c x = false) : DI d c cs i (j + 1) := by
  refine ⟨by rw [take_drop_ hj hx]; exact h.1, fun t y ht => h.2.1 t y (by rw [take_drop_ hj hx] at ht; exact ht), fun t y ht hy => h.2.2 t y (by omega) hy⟩
theorem DI.keep_ {d : List Int} {c : Int} {cs : Array Value} {i j : Nat} {x : Int} (h : DI d c cs i j) (hj : d[j]? = some x) (hx : keepN c x = true) (hs : d.length ≤ cs.size) : DI d c (cs.setIfInBounds i (Value.int .u32 x)) (i + 1) (j + 1) := by
  have hij := h.le
  have hjl := (List.getElem?_eq_some_iff.1 hj).1
  refine ⟨by rw [take_keep hj hx, List.length_append, ← h.1]; rfl, fun t y ht => ?_, fun t y ht hy => ?_⟩
  · rw [take_keep hj hx] at ht
    rcases Nat.lt_or_ge t i with hlt | hge
    · rw [List.getElem?_append_left (by rw [← h.1]; exact hlt)] at ht
      rw [Array.getElem?_setIfInBounds_ne (by omega)]
      exact h.2.1 t y ht
    · have ht2 := (List.getElem?_eq_some_iff.1 ht).1
      rw [List.length_append, ← h.1, List.length_singleton] at ht2
      have e : t = i := by omega
      subst e
      rw [List.getElem?_append_right (by rw [← h.1]; exact Nat.le_refl _), ← h.1, Nat.sub_self] at ht
      simp at ht
      subst ht
      rw [Array.getElem?_setIfInBounds_self_of_lt (by omega)]
  · rw [Array.getElem?_setIfInBounds_ne (by omega)]
    exact h.2.2 t y (by omega) hy
theorem DI.start {d : List Int} {c : Int} {cs : Array Value} {k : Nat} (hk : k < d.length) (h : ∀ i, i < k → d[i]?.getD 0 ≠ c) (hc : d[k]?.getD 0 = c) (hr : ∀ (t : Nat) (x : Int), d[t]? = some x → cs[t]? = some (Value.int .u32 x)) : DI d c cs k (k + 1) := by
  have hd : d[k]? = some c := by
    rw [List.getElem?_eq_getElem hk] at hc ⊢
    rw [← hc]; rfl
  have hall : ∀ j, j ≤ k → (d.take j).filter (keepN c) = d.take j := fun j hj => by
    refine List.filter_eq_self.2 fun x hx => ?_
    obtain ⟨i, hi, e⟩ := List.getElem_of_mem hx
    rw [List.length_take] at hi
    rw [List.getElem_take] at e
    have h1 := h i (by omega)
    rw [List.getElem?_eq_getElem (by omega), Option.getD_some, e] at h1
    exact bne_iff_ne.2 h1
  have e0 : DI d c cs k k := ⟨by rw [hall k (Nat.le_refl _), List.length_take]; omega, (fun t x ht => by
    rw [hall k (Nat.le_refl _)] at ht
    refine hr t x ?_
    rw [List.getElem?_take] at ht
    split at ht
    · exact ht
    · cases ht), fun t x _ hx => hr t x hx⟩
  exact e0.drop_ hd (by simp [keepN])
theorem blk_setCells {T : TypeId} (g : Nat) : ∀ (vs : List Value) (o : Nat) (w : World) (cs : Array Value), Blk w g T cs → ∃ cs' : Array Value, Blk (w.setCells g o vs) g T cs' ∧ cs'.size = cs.size ∧ ∀ t, t < o → cs'[t]? = cs[t]?
  | [], _, _, cs, h => ⟨cs, h, rfl, fun _ _ => rfl⟩
  | v :: vs, o, _, cs, h => by
    obtain ⟨cs', h1, h2, h3⟩ := blk_setCells g vs (o + 1) _ _ (h.set_ o v)
    refine ⟨cs', h1, by rw [h2]; simp, fun t ht => ?_⟩
    rw [h3 t (by omega), Array.getElem?_setIfInBounds_ne (by omega)]
theorem below_setCellsN {B : Nat} {a : World} {g : Nat} (hb : B ≤ g) : ∀ (vs : List Value) (o : Nat) (w : World), Below B a w → Below B a (w.setCells g o vs)
  | [], _, _, h => h
  | v :: vs, o, _, h => below_setCellsN hb vs (o + 1) _ (h.setCell (p := ⟨g, o, none⟩) hb v)
set_option maxHeartbeats 1000000 in
set_option maxRecDepth 100000 in
/-- The test that Drop hands to the library. -/
theorem dropFn (x c : Int) (g : Nat) (w : World) (c0 : w.cell? ⟨g, 0, none⟩ = some (.int .u32 c)) :
    Calls Tryd.prog 111 #[.int .u32 x, .pointer (some ⟨g, 0, none⟩)] w fun en w' => en = .returned (.bool (!keepN c x)) ∧ w = w' := by
  by_cases e : x = c
  · subst e
    go_enter Tryd.func111, Tryd.ntmps111
    go_wp2_with fail
    go_ret
    exact ⟨ret_b (by simp [keepN]), rfl⟩
  · have ht : (x == c) = false := by simpa using e
    have HE := Lib.hid e
    clear e
    go_enter Tryd.func111, Tryd.ntmps111
    go_wp2_with fail
    go_ret
    exact ⟨ret_b (by simp [keepN, HE.out]), rfl⟩
set_option maxHeartbeats 1000000 in
set_option maxRecDepth 100000 in
theorem dropIdx (A : Option Addr) (n c : Nat) (l : List Int) (x : Int) (g : Nat) (w : World) (B : Nat) (h : NS .u32 w B A n l) (hbd : n ≤ 100000) (c0 : w.cell? ⟨g, 0, none⟩ = some (.int .u32 x)) :
    Calls Tryd.prog 122 #[.slice A n c, .func (.func 111) #[] #[.pointer (some ⟨g, 0, none⟩)]] w fun en w' => ((en = .returned (.int .i64 (-1)) ∧ ∀ i, i < n → l[i]?.getD 0 ≠ x) ∨ ∃ k : Nat, en = .returned (.int .i64 k) ∧ k < n ∧ (∀ i, i < k → l[i]?.getD 0 ≠ x) ∧ l[k]?.getD 0 = x) ∧ w = w' := by
  have HN := Lib.hid h.1
  go_enter Tryd.func122, Tryd.ntmps122
  go_wp2_with fail
  go_loop [8] (fun i => ∃ j : Nat, j ≤ n ∧ i = .int .i64 j ∧ Hid (∀ i, i < j → l[i]?.getD 0 ≠ x)) (fun i => n - (intOf i).toNat)
  case atStart => exact ⟨0, by omega, rfl, Lib.hid fun i h => by omega⟩
  case round =>
    obtain ⟨j, hj, rfl, hno⟩ := hrel
    by_cases hlt : j < n
    · obtain ⟨b, off, rfl, hbw, hcw⟩ := h.form hlt
      have hd : decide ((j : Int) < n) = true := decide_eq_true (by omega)
      obtain ⟨y, hy⟩ : ∃ y, l[j]?.getD 0 = y := ⟨_, rfl⟩
      rw [hy] at hcw
      have HY := Lib.hid hy
      clear hy
      have HC := dropFn y x g w c0
      by_cases e : y = x
      · subst e
        rw [show (!keepN y y) = true by simp [keepN]] at HC
        go_wp2_with fail
        refine HC.mono ?_
        rintro _ _ ⟨rfl, rfl⟩
        go_wp2_with fail
        go_ret
        exact ⟨.inr ⟨j, rfl, hlt, hno.out, HY.out⟩, rfl⟩
      · rw [show (!keepN x y) = false by simp [keepN, e]] at HC
        have HS := Lib.hid (step_no hno.out (by rw [HY.out]; exact e))
        clear e
        go_wp2_with fail
        refine HC.mono ?_
        rintro _ _ ⟨rfl, rfl⟩
        go_wp2_with fail
        go_round
        case rel => exact ⟨j + 1, by omega, by go_num, HS⟩
        case measure => simp [intOf]; omega
    · have hd : decide ((j : Int) < n) = false := decide_eq_false (by omega)
      go_wp2_with fail
      go_ret
      exact ⟨.inl ⟨rfl, fun i hi => hno.out i (by omega)⟩, rfl⟩
theorem dropN_all {l : List Int} {x : Int} (h : ∀ i, i < l.length → l[i]?.getD 0 ≠ x) : dropN l x = l := by
  refine List.filter_eq_self.2 fun y hy => ?_
  obtain ⟨i, hi, e⟩ := List.getElem_of_mem hy
  have h1 := h i hi
  rw [List.getElem?_eq_getElem hi, Option.getD_some, e] at h1
  exact bne_iff_ne.2 h1
theorem DI.done {d : List Int} {c : Int} {cs : Array Value} {i n : Nat} (h : DI d c cs i n) (hn : n = d.length) : i = (dropN d c).length ∧ cs.toList.take i = un (dropN d c) := by
  have e : (d.take n).filter (keepN c) = dropN d c := by rw [hn, List.take_length]; rfl
  have h1 := h.1
  rw [e] at h1
  refine ⟨h1, List.ext_getElem? fun t => ?_⟩
  rw [List.getElem?_take, un, List.getElem?_map]
  by_cases ht : t < i
  · rw [if_pos ht]
    have hl : t < (dropN d c).length := by omega
    have h2 := h.2.1 t _ (by rw [e]; exact List.getElem?_eq_getElem hl)
    rw [List.getElem?_eq_getElem hl, Option.map_some, ← h2, Array.getElem?_toList]
  · rw [if_neg ht, List.getElem?_eq_none (by omega)]
    rfl
theorem zeroU (w : World) : (zeroValue 22).run Tryd.prog w = .ok (.int .u32 0) w := by kernel_rfl
set_option maxHeartbeats 2000000 in
set_option maxRecDepth 100000 in
theorem deleteU (A : Option Addr) (n c : Nat) (l : List Int) (x : Int) (gc base : Nat) (w : World) (h : OU w base A n c l) (_ : base ≤ w.heap.size) (hgc : gc < base) (hbd : n ≤ 100000) (c0 : w.cell? ⟨gc, 0, none⟩ = some (.int .u32 x)) :
    Calls Tryd.prog 110 #[.slice A n c, .func (.func 111) #[] #[.pointer (some ⟨gc, 0, none⟩)]] w fun en w' => ∃ A2 n2 c2, en = .returned (.slice A2 n2 c2) ∧ OU w' base A2 n2 c2 (dropN l x) ∧ Below base w w' := by
  have HC := dropIdx A n c l x gc w _ h.ns hbd c0
  have hl := Lib.hid h.1
  have hown := Lib.hid h.2.1.2
  have HO := Lib.hid h
  have hcap := h.cap
  clear h
  go_enter Tryd.func110, Tryd.ntmps110
  go_wp2_with fail
  refine HC.mono ?_
  rintro _ _ ⟨⟨rfl, hno⟩ | ⟨k, rfl, hk, hno, hat⟩, rfl⟩
  · have HE := Lib.hid (dropN_all (l := l) (x := x) (fun i hi => hno i (by rw [hl.out]; exact hi)))
    clear hno
    go_wp2_with fail
    go_ret
    exact ⟨A, n, c, rfl, by rw [HE.out]; exact HO.out, Below.refl _ _⟩
  · rcases hown.out with ⟨hv, hn0⟩ | ⟨g, cap, cur, hv, hbg, hB, hnc, hcm, hsz, htk⟩
    · omega
    injection hv with hv1 _ hv3
    subst hv1
    subst hv3
    have HB : Blk w g 22 cur := hB
    have HZ := Lib.hid hsz
    have hszl : n ≤ cur.size := by rw [hsz]; omega
    have HD := Lib.hid (DI.start (c := x) (cs := cur) (by rw [← hl.out]; exact hk) hno hat (fun t y ht => by
      have h1 : (un l)[t]? = some (.int .u32 y) := by rw [un, List.getElem?_map, ht]; rfl
      rw [← htk, List.getElem?_take] at h1
      split at h1
      · rw [← Array.getElem?_toList]; exact h1
      · cases h1))
    have hne1 : ((k : Int) == -1) = false := beq_eq_false_iff_ne.2 (by omega)
    have hgw := HB.lt
    clear hno hat hsz htk hB
    go_wp2_with fail
    go_loopw [5, 6] (fun s5 s6 wr => ∃ (i j : Nat) (cs : Array Value), s5 = .int .i64 i ∧ s6 = .int .i64 j ∧ j ≤ n ∧ i < j ∧ n ≤ cs.size ∧ Hid (cs.size = cur.size) ∧ Blk wr g 22 cs ∧ Below base w wr ∧ Hid (DI l x cs i j)) (fun _ s6 _ => n - (intOf s6).toNat)
    case atStart => exact ⟨k, k + 1, cur, rfl, by go_num, by omega, by omega, hszl, Lib.hid rfl, HB, Below.refl _ _, HD⟩
    case round =>
      obtain ⟨i, j, cs, rfl, rfl, hj, hij, hcs, hcz, hBw, hbw, hDI⟩ := hrel
      have k0 := (hbw.cell (p := ⟨gc, 0, none⟩) hgc).trans c0
      have hgwr := hBw.lt
      by_cases hlt : j < n
      · have hd : decide ((j : Int) < n) = true := decide_eq_true (by omega)
        obtain ⟨y, hy⟩ : ∃ y, l[j]? = some y := ⟨_, List.getElem?_eq_getElem (by rw [← hl.out]; exact hlt)⟩
        have cj := hBw.cell j
        rw [hDI.out.2.2 j y (Nat.le_refl _) hy] at cj
        have HY := Lib.hid hy
        clear hy
        have HF := dropFn y x gc wr k0
        cases e : keepN x y
        · rw [e] at HF
          have HS := Lib.hid (hDI.out.drop_ HY.out e)
          clear e
          go_wp2_with fail
          refine HF.mono ?_
          rintro _ _ ⟨rfl, rfl⟩
          go_wp2_with fail
          go_roundw
          case rel => exact ⟨i, j + 1, cs, rfl, by go_num, by omega, by omega, hcs, hcz, hBw, hbw, HS⟩
          case measure => simp [intOf]; omega
        · rw [e] at HF
          have HS := Lib.hid (hDI.out.keep_ HY.out e (by rw [← hl.out]; exact hcs))
          clear e
          have ci := hBw.cell i
          have fi := hBw.frozen i
          rw [Array.getElem?_eq_getElem (by omega)] at ci
          obtain ⟨v, hv⟩ : ∃ v, cs[i] = v := ⟨_, rfl⟩
          rw [hv] at ci
          clear hv
          go_wp2_with fail
          refine HF.mono ?_
          rintro _ _ ⟨rfl, rfl⟩
          go_wp2_with fail
          go_roundw
          case rel => exact ⟨i + 1, j + 1, _, by go_num, by go_num, by omega, by omega, by simp; omega, Lib.hid (by simp [hcz.out]), hBw.set_ i _, hbw.setCell (p := ⟨g, i, none⟩) hbg _, HS⟩
          case measure => simp [intOf]; omega
      · have hj' : j = n := by omega
        subst hj'
        have hd : decide ((j : Int) < j) = false := decide_eq_false (by omega)
        have HE := Lib.hid (hDI.out.done hl.out)
        have hcl : ∀ ty, (Builtin.clear_ #[92] ty #[.slice (some ⟨g, i, none⟩) (j - i) (c - i)]).run Tryd.prog wr = .ok (.tuple #[]) (wr.setCells g i (List.replicate (j - i) (.int .u32 0))) :=
          fun ty => Lib.run_clear_slice wr 92 22 ty (.int .u32 0) Tryd.underlying92 zeroU rfl rfl g i _ _ (by omega) (fun t ht => by rw [hBw.cell]; rw [Array.getElem?_eq_getElem (by omega)]; rfl) (fun t ht => hBw.frozen _)
        have hic : (i : Int) ≤ c := by omega
        have hic2 : ¬ c = i := by omega
        have hij2 : (i : Int) ≤ j := by omega
        go_wp2_with fail
        go_ret
        obtain ⟨cs', h1, h2, h3⟩ := blk_setCells g (List.replicate (j - i) (.int .u32 0)) i wr cs hBw
        refine ⟨some ⟨g, 0, none⟩, i, c, rfl, ⟨HE.out.1, ⟨by rw [un_length, ← HE.out.1]; omega, .inr ⟨g, c, cs', rfl, hbg, h1, by omega, hcm, by rw [h2, hcz.out]; exact HZ.out, ?_⟩⟩, ?_⟩, below_setCellsN hbg _ _ _ hbw⟩
        · rw [← HE.out.2, Nat.mul_one]
          refine List.ext_getElem? fun t => ?_
          rw [List.getElem?_take, List.getElem?_take]
          by_cases ht : t < i
          · rw [if_pos ht, if_pos ht, Array.getElem?_toList, Array.getElem?_toList, h3 t ht]
          · rw [if_neg ht, if_neg ht]
        · exact fun y hy => HO.out.2.2 y ((List.mem_filter.1 hy).1)
end Go.Proofs.YtnhkpnohadbcdaaDoor
