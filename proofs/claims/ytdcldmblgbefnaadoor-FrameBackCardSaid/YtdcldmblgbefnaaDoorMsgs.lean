/- Messages of the call's own (layer 7): a row of structs whose second cell is a slice of bytes. No conditions but sizes. -/
import Derived.Test.YtdcldmblgbefnaaDoorProg
import Derived.WalkKit
import Derived.WalkSpells
import Derived.WalkLawsBesides
import Derived.Outline
import Derived.Deep.QuietTactic
import Derived.BigQuiet
import Derived.Handy
import Derived.Lib.Hide
import Derived.Test.YtdcldmblgbefnaaDoorSRows
import Derived.Test.YtdcldmblgbefnaaDoorStream
namespace Go.Proofs.YtdcldmblgbefnaaDoor
open Go.RowKit
theorem msginfo : (Tryd.prog.info? 89).map (fun i => (i.zero, i.size, i.bytes)) = some (some (.agg #[.int .i64 0, .slice none 0 0]), 2, 32) := by kernel_rfl
/-- The cells of messages. -/
def mv : List (Int × Value) → List Value
  | [] => []
  | m :: l => .int .i64 m.1 :: m.2 :: mv l
theorem mv_length (l : List (Int × Value)) : (mv l).length = 2 * l.length := by
  induction l with
  | nil => rfl
  | cons m l ih => simp only [mv, List.length_cons, ih]; omega
theorem mv_append (l l' : List (Int × Value)) : mv (l ++ l') = mv l ++ mv l' := by
  induction l with
  | nil => rfl
  | cons m l ih => simp only [mv, List.cons_append, ih]
theorem mv_at : ∀ (l : List (Int × Value)) (i : Nat) (m : Int × Value), l[i]? = some m → (mv l)[2 * i]? = some (.int .i64 m.1) ∧ (mv l)[2 * i + 1]? = some m.2
  | [], i, m, h => by simp at h
  | x :: l, 0, m, h => by
    simp at h
    subst h
    exact ⟨rfl, rfl⟩
  | x :: l, i + 1, m, h => by
    have := mv_at l i m (by simpa using h)
    rw [show 2 * (i + 1) = (2 * i + 1) + 1 by omega, show (2 * i + 1) + 1 + 1 = ((2 * i + 1) + 1) + 1 by omega]
    simp only [mv, List.getElem?_cons_succ]
    exact this
/-- The cells vs are those of the messages ms: each one's bytes lie below B, and not in the block 'own'. -/
def MB (w : World) (B : Nat) (own : Option Nat) (vs : List (Int × Value)) (ms : List (Int × List UInt8)) : Prop := vs.length = ms.length ∧ ∀ (i : Nat) (v : Int × Value) (m : Int × List UInt8), vs[i]? = some v → ms[i]? = some m → v.1 = m.1 ∧ ∃ A n c, v.2 = .slice A n c ∧ BS w B A n m.2 ∧ (0 < n → ∀ ad, A = some ad → some ad.block ≠ own)
section
variable {w w' : World} {B B' base n c g : Nat} {A : Option Addr} {vs : List (Int × Value)} {ms : List (Int × List UInt8)} {own own' : Option Nat}
theorem MB.nil_ : MB w B own [] [] := ⟨rfl, fun i v m h => by simp at h⟩
theorem MB.mapL (h : MB w B own vs ms) (f : ∀ (A : Option Addr) (n : Nat) (l : List UInt8), BS w B A n l → (0 < n → ∀ ad, A = some ad → some ad.block ≠ own) → BS w' B' A n l ∧ (0 < n → ∀ ad, A = some ad → some ad.block ≠ own')) : MB w' B' own' vs ms :=
  ⟨h.1, fun i v m h1 h2 => by obtain ⟨e, A, n, c, e2, hs, ho⟩ := h.2 i v m h1 h2; exact ⟨e, A, n, c, e2, f A n m.2 hs ho⟩⟩
theorem MB.below (h : MB w B own vs ms) (hb : Below B w w') : MB w' B own vs ms := h.mapL fun _ _ _ hs ho => ⟨hs.below hb, ho⟩
theorem MB.more (h : MB w B own vs ms) (hB : B ≤ B') : MB w B' own vs ms := h.mapL fun _ _ _ hs ho => ⟨hs.more hB, ho⟩
theorem MB.call (h : MB w w.heap.size own vs ms) (hb : Below w.heap.size w w') : MB w' w'.heap.size own vs ms := (h.below hb).more hb.size
theorem MB.at_ {t : TypeId} {cs : Array Value} (h : MB w w.heap.size own vs ms) (hb : Blk w g t cs) (hno : ∀ (i : Nat) (v : Int), cs[i]? ≠ some (Value.int .u8 v)) (hg : w.grownBy w' (some g)) : MB w' w'.heap.size own vs ms :=
  h.mapL fun _ _ _ hs ho => ⟨hs.grownAt hg (hs.apart hb hno), ho⟩
theorem BS.lt_ {l : List UInt8} (h : BS w B A n l) (hn : 0 < n) : ∀ ad, A = some ad → ad.block < B := by
  intro ad he
  obtain ⟨b, off, hA, hb, _⟩ := h.form hn
  rw [he] at hA
  injection hA with hA
  subst hA
  exact hb
theorem MB.grow (h : MB w w.heap.size own vs ms) (hg : w.grownBy w' own) (ho' : own' = own ∨ own' = some w.heap.size) : MB w' w'.heap.size own' vs ms :=
  h.mapL fun A n l hs ho => by
    refine ⟨⟨hs.1, hs.2.1, fun hn => ?_⟩, fun hn ad he => ?_⟩
    · obtain ⟨ad, e, hb, hc⟩ := hs.2.2 hn
      refine ⟨ad, e, Nat.lt_of_lt_of_le hb hg.size, fun j u hu => ?_⟩
      refine (World.cell?_of_block ?_).trans (hc j u hu)
      rw [block_of_add]
      exact hg.block _ hb (ho hn ad e)
    · rcases ho' with rfl | rfl
      · exact ho hn ad he
      · intro e'
        injection e' with e'
        have := hs.lt_ hn ad he
        omega
theorem MB.snoc (h : MB w B own vs ms) {K : Int} {b : List UInt8} (hs : BS w B A n b) (ho : 0 < n → ∀ ad, A = some ad → some ad.block ≠ own) : MB w B own (vs ++ [(K, .slice A n c)]) (ms ++ [(K, b)]) := by
  refine ⟨by simp [h.1], fun i v m h1 h2 => ?_⟩
  rcases Nat.lt_or_ge i vs.length with hi | hi
  · rw [List.getElem?_append_left hi] at h1
    rw [List.getElem?_append_left (by rw [← h.1]; exact hi)] at h2
    exact h.2 i v m h1 h2
  · have hi2 : i = vs.length := by
      have := (List.getElem?_eq_some_iff.1 h1).1
      simp at this
      omega
    subst hi2
    rw [List.getElem?_append_right (Nat.le_refl _)] at h1
    rw [h.1, List.getElem?_append_right (Nat.le_refl _)] at h2
    simp at h1 h2
    subst h1 h2
    exact ⟨rfl, A, n, c, rfl, hs, ho⟩
/-- Messages of the call's own. -/
def OM (w : World) (base : Nat) (A : Option Addr) (n c : Nat) (ms : List (Int × List UInt8)) : Prop := ∃ vs, n = ms.length ∧ w.ownsRow base 89 2 (.slice A n c) n (mv vs) ∧ MB w w.heap.size (Value.ownBlock (.slice A n c)) vs ms
theorem OM.nil_ : OM w base none 0 0 [] := ⟨[], rfl, World.ownsRow_nil _ _ _ _, MB.nil_⟩
theorem OM.len (h : OM w base A n c ms) : n = ms.length := by obtain ⟨_, h, _⟩ := h; exact h
theorem OM.cap (h : OM w base A n c ms) : n ≤ c := by obtain ⟨_, _, h, _⟩ := h; exact own_cap h
theorem OM.call (h : OM w base A n c ms) (hb : Below w.heap.size w w') : OM w' base A n c ms := by
  obtain ⟨vs, h1, h2, h3⟩ := h
  exact ⟨vs, h1, own_below h2 hb, h3.call hb⟩
theorem OM.at_ {t : TypeId} {cs : Array Value} (h : OM w base A n c ms) (hb : Blk w g t cs) (hne : 89 ≠ t) (hno : ∀ (i : Nat) (v : Int), cs[i]? ≠ some (Value.int .u8 v)) (hg : w.grownBy w' (some g)) : OM w' base A n c ms := by
  obtain ⟨vs, h1, h2, h3⟩ := h
  exact ⟨vs, h1, own_at h2 hb hne hg, h3.at_ hb hno hg⟩
theorem OM.low {base' : Nat} (h : OM w base A n c ms) (hb : base' ≤ base) : OM w base' A n c ms := by
  obtain ⟨vs, h1, h2, h3⟩ := h
  refine ⟨vs, h1, ⟨h2.1, ?_⟩, h3⟩
  rcases h2.2 with h2 | ⟨g, cap, cur, hv, hg, hh, r⟩
  · exact .inl h2
  · exact .inr ⟨g, cap, cur, hv, Nat.le_trans hb hg, hh, r⟩
theorem OM.form (h : OM w base A n c ms) {j : Nat} {m : Int × List UInt8} (hj : ms[j]? = some m) : ∃ g A' n' c', A = some ⟨g, 0, none⟩ ∧ g < w.heap.size ∧ w.cell? ⟨g, 2 * j, none⟩ = some (.int .i64 m.1) ∧ w.cell? ⟨g, 2 * j + 1, none⟩ = some (.slice A' n' c') ∧ BS w w.heap.size A' n' m.2 := by
  obtain ⟨vs, h1, h2, h3⟩ := h
  have hjl := (List.getElem?_eq_some_iff.1 hj).1
  obtain ⟨g, cap, hv, _, hlt⟩ := h2.form (by omega)
  have hA : A = some ⟨g, 0, none⟩ := by injection hv
  subst hA
  have hjv : j < vs.length := by rw [h3.1]; exact hjl
  obtain ⟨e, A', n', c', e2, hs, _⟩ := h3.2 j (vs[j]) m (List.getElem?_eq_getElem hjv) hj
  obtain ⟨k1, k2⟩ := mv_at vs j _ (List.getElem?_eq_getElem hjv)
  refine ⟨g, A', n', c', rfl, hlt, ?_, ?_, hs⟩
  · rw [h2.cellAt (2 * j) (by omega), k1, e]
  · rw [h2.cellAt (2 * j + 1) (by omega), k2, e2]
/-- One more message, whose bytes do not lie in the row's own block. -/
theorem wpl_appM {P : Program} {ops : Array Oper} {rest : List Oper} {o : Oper} {a : Act} {Q : Exit → Act → World → Prop} (hgd : o.guard = none) (s x : Operand) (t : TypeId)
    (ho : o.op = .call { callee := .builtin .append, args := #[s, x], argTypes := #[t, t] })
    (ht : P.underlying t = some (.slice 89)) (hinfo : (P.info? 89).map (fun i => (i.zero, i.size, i.bytes)) = some (some (.agg #[.int .i64 0, .slice none 0 0]), 2, 32))
    (base : Nat) (A : Option Addr) (n c : Nat) (ms : List (Int × List UInt8)) (hs : a.eval s = .slice A n c) (h : OM w base A n c ms) (A' : Option Addr) (c' g : Nat) (hx : a.eval x = .slice A' 1 c') (K : Int) (Ab : Option Addr) (nb cb : Nat) (b : List UInt8) (hr : Reads w g 2 A' 1 [.int .i64 K, .slice Ab nb cb]) (hb : BS w w.heap.size Ab nb b) (hfar : 0 < nb → ∀ ad, Ab = some ad → some ad.block ≠ Value.ownBlock (.slice A n c))
    (hlen : ms.length ≤ 100000) (hbase : base ≤ w.heap.size)
    (hk : ∀ (A2 : Option Addr) (c2 : Nat) (w' : World), OM w' base A2 (n + 1) c2 (ms ++ [(K, b)]) → Below base w w' → w.grownBy w' (Value.ownBlock (.slice A n c)) → (Value.ownBlock (.slice A2 (n + 1) c2) = Value.ownBlock (.slice A n c) ∨ Value.ownBlock (.slice A2 (n + 1) c2) = some w.heap.size) → wpList P ops Q rest (a.put o.dst (.slice A2 (n + 1) c2)) w') : wpList P ops Q (o :: rest) a w := by
  obtain ⟨vs, h1, h2, h3⟩ := h
  refine wpl_appR hgd s x t ho 89 _ 2 32 ht hinfo rfl (by omega) base A n c (mv vs) hs h2 g A' 1 c' _ hx hr ?_ (by unfold maxLen; omega) (by omega) hbase ?_
  · intro u hu
    simp at hu
    rcases hu with rfl | rfl <;> rfl
  · intro A2 c2 w' o' b' g' hat
    exact hk A2 c2 w' ⟨vs ++ [(K, .slice Ab nb cb)], by simp [h1], by rw [mv_append]; exact o', (h3.snoc (c := cb) (K := K) hb hfar).grow g' hat⟩ b' g' hat
theorem OM.own_ne {t : TypeId} {cs : Array Value} (h : OM w base A n c ms) (hb : Blk w g t cs) (hne : 89 ≠ t) : some g ≠ Value.ownBlock (.slice A n c) := by
  obtain ⟨_, _, h, _⟩ := h
  exact (own_blk_ne h hb hne).symm
theorem OM.own_lt (h : OM w base A n c ms) : ∀ k, Value.ownBlock (.slice A n c) = some k → base ≤ k ∧ k < w.heap.size := by
  obtain ⟨_, _, h, _⟩ := h
  exact h.lt
end
end Go.Proofs.YtdcldmblgbefnaaDoor
