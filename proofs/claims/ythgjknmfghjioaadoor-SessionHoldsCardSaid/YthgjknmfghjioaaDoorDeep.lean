/- Data that reads, told by a footprint: rows of structs whose cells may be slices of their own. No conditions. -/
import Derived.Test.YthgjknmfghjioaaDoorBase
import Derived.Test.YthgjknmfghjioaaDoorOpen
import Derived.Test.YthgjknmfghjioaaDoorSRows
namespace Go.Proofs.YthgjknmfghjioaaDoor
open Go.RowKit
theorem addr_add (b off j : Nat) : (⟨b, off, none⟩ : Addr).add j = ⟨b, off + j, none⟩ := by
  unfold Addr.add
  split
  · rename_i h; rw [h, Nat.add_zero]
  · rfl
/-- Each block of the footprint S is as it was, and one of S'. -/
def Kp (w w' : World) (S S' : Nat → Prop) : Prop := ∀ b, S b → S' b ∧ w'.heap[b]? = w.heap[b]?
theorem Kp.cell {w w' : World} {S S' : Nat → Prop} (h : Kp w w' S S') {b off : Nat} (hb : S b) : w'.cell? ⟨b, off, none⟩ = w.cell? ⟨b, off, none⟩ := World.cell?_of_block (h b hb).2
theorem Kp.sub {w : World} {S S' : Nat → Prop} (h : ∀ b, S b → S' b) : Kp w w S S' := fun b hb => ⟨h b hb, rfl⟩
theorem Kp.trans {a b c : World} {S S' S'' : Nat → Prop} (h : Kp a b S S') (h' : Kp b c S' S'') : Kp a c S S'' := fun x hx => ⟨(h' x (h x hx).1).1, (h' x (h x hx).1).2.trans (h x hx).2⟩
/-- The blocks below one. -/
def Lt (B : Nat) : Nat → Prop := fun b => b < B
/-- All blocks that are there. -/
abbrev Lo (w : World) : Nat → Prop := Lt w.heap.size
/-- The blocks that are there, from one on. -/
def Fr (B : Nat) (w : World) : Nat → Prop := fun b => B ≤ b ∧ b < w.heap.size
theorem Kp.lt {w w' : World} {B : Nat} (hb : Below B w w') : Kp w w' (Lt B) (Lt B) := fun b h => ⟨h, hb.block b h⟩
theorem Kp.call {w w' : World} (hb : Below w.heap.size w w') : Kp w w' (Lo w) (Lo w') := fun b h => ⟨Nat.lt_of_lt_of_le h hb.size, hb.block b h⟩
theorem Kp.below {w w' : World} {S : Nat → Prop} {B : Nat} (hb : Below B w w') (hS : ∀ b, S b → b < B) : Kp w w' S S := fun b h => ⟨h, hb.block b (hS b h)⟩
theorem Kp.grown {w w' : World} {S S' : Nat → Prop} {row : Option Nat} (hg : w.grownBy w' row) (hS : ∀ b, S b → b < w.heap.size ∧ some b ≠ row ∧ S' b) : Kp w w' S S' := fun b h => ⟨(hS b h).2.2, hg.block b (hS b h).1 (hS b h).2.1⟩
/-- What a region that draws its order keeps: all that lay below. -/
theorem heldB_refl (W : World) : Below W.heap.size W W.drew ∧ ∀ b o, b < W.heap.size → W.drew.cell? ⟨b, o, none⟩ = W.cell? ⟨b, o, none⟩ := ⟨(Below.refl _ _).drew, fun _ _ _ => rfl⟩
theorem heldB_keep {W w w' : World} (hb : Below w.heap.size w w') (h : Below W.heap.size W w ∧ ∀ b o, b < W.heap.size → w.cell? ⟨b, o, none⟩ = W.cell? ⟨b, o, none⟩) : Below W.heap.size W w' ∧ ∀ b o, b < W.heap.size → w'.cell? ⟨b, o, none⟩ = W.cell? ⟨b, o, none⟩ :=
  ⟨btr h.1 hb h.1.size, fun b o hlt => (hb.cell (p := ⟨b, o, none⟩) (Nat.lt_of_lt_of_le hlt h.1.size)).trans (h.2 b o hlt)⟩
theorem Kp.set {S : Nat → Prop} {w : World} {p : Addr} (hp : ∀ b, S b → b ≠ p.block) (u : Value) : Kp w (w.setCell p u) S S := fun b hb => ⟨hb, Below.heap_setCell w p u b (hp b hb)⟩
/-- A row of cells that reads. -/
def Rw (w : World) (S : Nat → Prop) (size : Nat) (A : Option Addr) (n : Nat) (xs : List Value) : Prop :=
  xs.length = n * size ∧ (0 < n → ∃ b off, A = some ⟨b, off, none⟩ ∧ S b ∧ ∀ j u, xs[j]? = some u → w.cell? ⟨b, off + j, none⟩ = some u)
section
variable {w w' : World} {S S' : Nat → Prop} {size n : Nat} {A : Option Addr} {xs : List Value}
theorem Rw.keep (h : Rw w S size A n xs) (hk : Kp w w' S S') : Rw w' S' size A n xs :=
  ⟨h.1, fun hn => by
    obtain ⟨b, off, e, hb, hc⟩ := h.2 hn
    exact ⟨b, off, e, (hk b hb).1, fun j u hu => (hk.cell hb).trans (hc j u hu)⟩⟩
theorem Rw.none_ : Rw w S size none 0 [] := ⟨by simp, fun h => absurd h (by omega)⟩
theorem Rw.reads {B : Nat} (h : Rw w S size A n xs) (hS : ∀ b, S b → b < B) : Reads w B size A n xs :=
  ⟨h.1, fun hn => by
    obtain ⟨b, off, e, hb, hc⟩ := h.2 hn
    exact ⟨_, e, hS b hb, fun j u hu => by rw [addr_add]; exact hc j u hu⟩⟩
theorem Rw.of_reads {B : Nat} (h : Reads w B size A n xs) (hs : 0 < size) (hS : ∀ b, b < B → S b) : Rw w S size A n xs := by
  refine ⟨h.1, fun hn => ?_⟩
  obtain ⟨ad, rfl, hb, hc⟩ := h.2 hn
  have hl : 0 < xs.length := by rw [h.1]; exact Nat.mul_pos hn hs
  have h0 := hc 0 _ (List.getElem?_eq_getElem hl)
  have hsp : ad.spot = none := by
    have := World.cell?_spot h0
    simpa [Addr.add] using this
  obtain ⟨b, off, spot⟩ := ad
  simp only at hsp
  subst hsp
  exact ⟨b, off, rfl, hS b hb, fun j u hu => by rw [← addr_add]; exact hc j u hu⟩
end
/-- How a value of α stands in cells. -/
abbrev Rep (α : Type) := World → (Nat → Prop) → List Value → α → Prop
structure Rep.Ok {α : Type} (R : Rep α) (size : Nat) : Prop where
  len : ∀ {w S cs a}, R w S cs a → cs.length = size
  one : ∀ {w S cs a}, R w S cs a → ∀ u ∈ cs, u.oneCell' = true
  keep : ∀ {w w' S S' cs a}, R w S cs a → Kp w w' S S' → R w' S' cs a
/-- A list of α that reads as a slice. -/
def DL {α : Type} (R : Rep α) (size : Nat) (w : World) (S : Nat → Prop) (A : Option Addr) (n : Nat) (l : List α) : Prop :=
  ∃ css : List (List Value), css.length = l.length ∧ n = l.length ∧ Rw w S size A n css.flatten ∧ (∀ (i : Nat) (cs : List Value) (a : α), css[i]? = some cs → l[i]? = some a → R w S cs a) ∧ ∀ cs ∈ css, cs.length = size
theorem flat_at {css : List (List Value)} {size : Nat} (h : ∀ cs ∈ css, cs.length = size) {i j : Nat} {cs : List Value} (hi : css[i]? = some cs) (hj : j < size) : css.flatten[i * size + j]? = cs[j]? := by
  induction css generalizing i with
  | nil => simp at hi
  | cons c css ih =>
    have hc := h c (by simp)
    cases i with
    | zero =>
      simp at hi
      subst hi
      rw [List.flatten_cons, Nat.zero_mul, Nat.zero_add, List.getElem?_append_left (by omega)]
    | succ i =>
      rw [List.flatten_cons, List.getElem?_append_right (by rw [hc, Nat.add_mul]; omega), hc]
      rw [show (i + 1) * size + j - size = i * size + j by rw [Nat.add_mul]; omega]
      exact ih (fun cs hcs => h cs (by simp [hcs])) (by simpa using hi)
theorem flat_len {css : List (List Value)} {size : Nat} (h : ∀ cs ∈ css, cs.length = size) : css.flatten.length = css.length * size := by
  induction css with
  | nil => simp
  | cons c css ih =>
    rw [List.flatten_cons, List.length_append, ih (fun cs hcs => h cs (by simp [hcs])), h c (by simp), List.length_cons, Nat.add_mul]
    omega
theorem flat_take {css : List (List Value)} {size : Nat} (h : ∀ cs ∈ css, cs.length = size) (k : Nat) : css.flatten.take (k * size) = (css.take k).flatten := by
  induction css generalizing k with
  | nil => simp
  | cons c css ih =>
    have hc := h c (by simp)
    cases k with
    | zero => simp
    | succ k =>
      rw [List.flatten_cons, List.take_succ_cons, List.flatten_cons, List.take_append, List.take_of_length_le (by rw [hc, Nat.add_mul]; omega), hc]
      rw [show (k + 1) * size - size = k * size by rw [Nat.add_mul]; omega, ih (fun cs hcs => h cs (by simp [hcs]))]
theorem flat_drop {css : List (List Value)} {size : Nat} (h : ∀ cs ∈ css, cs.length = size) (k : Nat) : css.flatten.drop (k * size) = (css.drop k).flatten := by
  induction css generalizing k with
  | nil => simp
  | cons c css ih =>
    have hc := h c (by simp)
    cases k with
    | zero => simp
    | succ k =>
      rw [List.flatten_cons, List.drop_succ_cons, List.drop_append, List.drop_of_length_le (by rw [hc, Nat.add_mul]; omega), hc, List.nil_append]
      rw [show (k + 1) * size - size = k * size by rw [Nat.add_mul]; omega, ih (fun cs hcs => h cs (by simp [hcs]))]
section
variable {α : Type} {R : Rep α} {size : Nat} {w w' : World} {S S' : Nat → Prop} {n c : Nat} {A : Option Addr} {l : List α}
theorem DL.len (h : DL R size w S A n l) : n = l.length := by obtain ⟨_, _, h, _⟩ := h; exact h
theorem DL.none_ : DL R size w S none 0 [] := ⟨[], rfl, rfl, Rw.none_, fun i cs a h => by simp at h, fun cs h => by simp at h⟩
theorem DL.keep (h : DL R size w S A n l) (ok : R.Ok size) (hk : Kp w w' S S') : DL R size w' S' A n l := by
  obtain ⟨css, h1, h2, h3, h4, h5⟩ := h
  exact ⟨css, h1, h2, h3.keep hk, fun i cs a hi ha => ok.keep (h4 i cs a hi ha) hk, h5⟩
theorem DL.below {B : Nat} (h : DL R size w (Lt B) A n l) (ok : R.Ok size) (hb : Below B w w') : DL R size w' (Lt B) A n l := h.keep ok (Kp.lt hb)
theorem DL.call (h : DL R size w (Lo w) A n l) (ok : R.Ok size) (hb : Below w.heap.size w w') : DL R size w' (Lo w') A n l := h.keep ok (Kp.call hb)
/-- Element i, and where it stands. -/
theorem DL.at_ (h : DL R size w S A n l) {i : Nat} {a : α} (hi : l[i]? = some a) : ∃ b off cs, A = some ⟨b, off, none⟩ ∧ S b ∧ cs.length = size ∧ (∀ j u, cs[j]? = some u → w.cell? ⟨b, off + i * size + j, none⟩ = some u) ∧ R w S cs a := by
  obtain ⟨css, h1, h2, h3, h4, h5⟩ := h
  have hil := (List.getElem?_eq_some_iff.1 hi).1
  have hci : css[i]? = some css[i] := List.getElem?_eq_getElem (by omega)
  obtain ⟨b, off, e, hb, hc⟩ := h3.2 (by omega)
  have hl := h5 _ (List.getElem_mem (by omega : i < css.length))
  refine ⟨b, off, css[i], e, hb, hl, fun j u hu => ?_, h4 i _ a hci hi⟩
  have hj : j < size := by rw [← hl]; exact (List.getElem?_eq_some_iff.1 hu).1
  rw [Nat.add_assoc]
  exact hc _ u (by rw [flat_at h5 hci hj]; exact hu)
/-- The first k. -/
theorem DL.take_ (h : DL R size w S A n l) {k : Nat} (hk : k ≤ n) : DL R size w S A k (l.take k) := by
  obtain ⟨css, h1, h2, h3, h4, h5⟩ := h
  refine ⟨css.take k, by simp [h1], by rw [List.length_take]; omega, ⟨?_, fun hn => ?_⟩, fun i cs a hi ha => ?_, fun cs hcs => h5 cs (List.mem_of_mem_take hcs)⟩
  · rw [← flat_take h5, List.length_take, h3.1]
    exact Nat.min_eq_left (Nat.mul_le_mul_right _ hk)
  · obtain ⟨b, off, e, hb, hc⟩ := h3.2 (by omega)
    refine ⟨b, off, e, hb, fun j u hu => hc j u ?_⟩
    rw [← flat_take h5, List.getElem?_take] at hu
    split at hu
    · exact hu
    · cases hu
  · have hik : i < k := by
      have := (List.getElem?_eq_some_iff.1 ha).1
      rw [List.length_take] at this
      omega
    rw [List.getElem?_take_of_lt hik] at hi ha
    exact h4 i cs a hi ha
/-- Behind the first k, where the slice does not lose its place. -/
theorem DL.drop_ (h : DL R size w S A n l) {k c : Nat} (hk : k ≤ n) (hc : n ≤ c) : DL R size w S (if c = k then A else A.map (·.add (k * size))) (n - k) (l.drop k) := by
  obtain ⟨css, h1, h2, h3, h4, h5⟩ := h
  refine ⟨css.drop k, by simp [h1], by rw [List.length_drop]; omega, ⟨?_, fun hn => ?_⟩, fun i cs a hi ha => ?_, fun cs hcs => h5 cs (List.mem_of_mem_drop hcs)⟩
  · rw [← flat_drop h5, List.length_drop, h3.1, Nat.sub_mul]
  · obtain ⟨b, off, rfl, hb, hcell⟩ := h3.2 (by omega)
    rw [if_neg (by omega)]
    refine ⟨b, off + k * size, by rw [Option.map_some, addr_add], hb, fun j u hu => ?_⟩
    rw [Nat.add_assoc]
    refine hcell _ u ?_
    rw [← flat_drop h5, List.getElem?_drop] at hu
    exact hu
  · rw [List.getElem?_drop] at hi ha
    exact h4 _ cs a hi ha
theorem DL.reads {B : Nat} (h : DL R size w S A n l) (hS : ∀ b, S b → b < B) : ∃ xs, Reads w B size A n xs := by
  obtain ⟨css, h1, h2, h3, h4, h5⟩ := h
  exact ⟨_, h3.reads hS⟩
end
/-- What lies below B, but for some blocks, is as it was. -/
structure Sm (B : Nat) (av : List Nat) (w w' : World) : Prop where
  os : w'.os = w.os
  tape : w'.tape = w.tape
  output : w'.output = w.output
  size : w.heap.size ≤ w'.heap.size
  block : ∀ b, b < B → b ∉ av → w'.heap[b]? = w.heap[b]?
section
variable {B B' : Nat} {av : List Nat} {a w w' : World}
theorem Sm.refl (B : Nat) (av : List Nat) (w : World) : Sm B av w w := ⟨rfl, rfl, rfl, Nat.le_refl _, fun _ _ _ => rfl⟩
theorem Sm.trans (h : Sm B av a w) (h' : Sm B av w w') : Sm B av a w' := ⟨h'.os.trans h.os, h'.tape.trans h.tape, h'.output.trans h.output, Nat.le_trans h.size h'.size, fun b hb hn => (h'.block b hb hn).trans (h.block b hb hn)⟩
theorem Sm.of_below (h : Below B' w w') (hB : B ≤ B') : Sm B av w w' := ⟨h.os, h.tape, h.output, h.size, fun b hb _ => h.block b (Nat.lt_of_lt_of_le hb hB)⟩
theorem Sm.below (h : Sm B av a w) (hb : Below B' w w') (hB : B ≤ B') : Sm B av a w' := h.trans (Sm.of_below hb hB)
theorem Sm.grown {row : Option Nat} (h : Sm B av a w) (hg : w.grownBy w' row) (hr : ∀ g, row = some g → B ≤ g ∨ g ∈ av) (hB : B ≤ w.heap.size) : Sm B av a w' :=
  h.trans ⟨hg.os, hg.tape, hg.output, hg.size, fun b hb hn => hg.block b (Nat.lt_of_lt_of_le hb hB) (fun e => by
    rcases hr b e.symm with h | h
    · omega
    · exact hn h)⟩
theorem Sm.alloc (h : Sm B av a w) (hB : B ≤ w.heap.size) (o : Obj) : Sm B av a (w.alloc o) := h.trans (Sm.of_below ((Below.refl w.heap.size w).alloc (Nat.le_refl _) o) hB)
theorem Sm.setCell (h : Sm B av a w) {p : Addr} (hp : B ≤ p.block ∨ p.block ∈ av) (u : Value) : Sm B av a (w.setCell p u) :=
  h.trans ⟨rfl, rfl, rfl, by simp [World.setCell], fun b hb hn => Below.heap_setCell w p u b (by
    rintro rfl
    rcases hp with hp | hp
    · omega
    · exact hn hp)⟩
theorem Sm.to_below (h : Sm B av w w') {B0 : Nat} (hB : B0 ≤ B) (hav : ∀ x ∈ av, B0 ≤ x) : Below B0 w w' := ⟨h.os, h.tape, h.output, h.size, fun b hb => h.block b (Nat.lt_of_lt_of_le hb hB) (fun hm => by have := hav b hm; omega)⟩
theorem Sm.blk {g : Nat} {t : TypeId} {cs : Array Value} (h : Sm B av w w') (hg : Blk w g t cs) (hB : g < B) (hn : g ∉ av) : Blk w' g t cs := (h.block g hB hn).trans hg
theorem Sm.less (h : Sm B av w w') (hB : B' ≤ B) : Sm B' av w w' := ⟨h.os, h.tape, h.output, h.size, fun b hb hn => h.block b (Nat.lt_of_lt_of_le hb hB) hn⟩
/-- The blocks from lo on and below B, but some. -/
def Un (lo B : Nat) (av : List Nat) : Nat → Prop := fun b => lo ≤ b ∧ b < B ∧ b ∉ av
theorem Kp.sm {lo : Nat} (h : Sm B av w w') : Kp w w' (Un lo B av) (Un lo B av) := fun b hb => ⟨hb, h.block b hb.2.1 hb.2.2⟩
end
/-- A list of α as a slice of the call's own; all of it lies below B, and outside the blocks of 'av'. -/
def OL {α : Type} (R : Rep α) (size : Nat) (w : World) (base : Nat) (e : TypeId) (lo B : Nat) (av : List Nat) (A : Option Addr) (n c : Nat) (l : List α) : Prop :=
  ∃ css : List (List Value), css.length = l.length ∧ n = l.length ∧ w.ownsRow base e size (.slice A n c) n css.flatten ∧ (∀ (i : Nat) (cs : List Value) (a : α), css[i]? = some cs → l[i]? = some a → R w (fun b => Un lo B av b ∧ some b ≠ Value.ownBlock (.slice A n c)) cs a) ∧ (∀ cs ∈ css, cs.length = size) ∧ ∀ k, Value.ownBlock (.slice A n c) = some k → Un lo B av k
theorem own_keep {w w' : World} {base size n c : Nat} {e : TypeId} {A : Option Addr} {xs : List Value} (h : w.ownsRow base e size (.slice A n c) n xs) (hk : ∀ k, Value.ownBlock (.slice A n c) = some k → w'.heap[k]? = w.heap[k]?) : w'.ownsRow base e size (.slice A n c) n xs := by
  refine ⟨h.1, ?_⟩
  rcases h.2 with h2 | ⟨g, cap, cur, hv, hg, hh, r⟩
  · exact .inl h2
  · exact .inr ⟨g, cap, cur, hv, hg, (hk g (by rw [hv]; rfl)).trans hh, r⟩
section
variable {α : Type} {R : Rep α} {size : Nat} {w w' : World} {base : Nat} {e : TypeId} {lo lo' B B' : Nat} {av av' : List Nat} {n c : Nat} {A : Option Addr} {l : List α}
theorem OL.len (h : OL R size w base e lo B av A n c l) : n = l.length := by obtain ⟨_, _, h, _⟩ := h; exact h
theorem OL.cap (h : OL R size w base e lo B av A n c l) : n ≤ c := by obtain ⟨_, _, _, h, _⟩ := h; exact own_cap h
theorem OL.nil_ : OL R size w base e lo B av none 0 0 [] := ⟨[], rfl, rfl, World.ownsRow_nil _ _ _ _, fun i cs a h => by simp at h, fun cs h => by simp at h, fun k h => by cases h⟩
theorem OL.dl (h : OL R size w base e lo B av A n c l) (ok : R.Ok size) (hs : 0 < size) (hB : B ≤ w.heap.size) : DL R size w (Lo w) A n l := by
  obtain ⟨css, h1, h2, h3, h4, h5, h6⟩ := h
  exact ⟨css, h1, h2, Rw.of_reads (Reads.of_own h3) hs (fun b hb => hb), fun i cs a hi ha => ok.keep (h4 i cs a hi ha) (Kp.sub fun b hb => Nat.lt_of_lt_of_le hb.1.2.1 hB), h5⟩
theorem OL.sm (h : OL R size w base e lo B av A n c l) (ok : R.Ok size) (hs : Sm B av w w') : OL R size w' base e lo B av A n c l := by
  obtain ⟨css, h1, h2, h3, h4, h5, h6⟩ := h
  exact ⟨css, h1, h2, own_keep h3 (fun k hk => hs.block k (h6 k hk).2.1 (h6 k hk).2.2), fun i cs a hi ha => ok.keep (h4 i cs a hi ha) (fun b hb => ⟨hb, hs.block b hb.1.2.1 hb.1.2.2⟩), h5, h6⟩
theorem OL.more (h : OL R size w base e lo B av A n c l) (ok : R.Ok size) (hB : ∀ b, Un lo B av b → Un lo' B' av' b) : OL R size w base e lo' B' av' A n c l := by
  obtain ⟨css, h1, h2, h3, h4, h5, h6⟩ := h
  exact ⟨css, h1, h2, h3, fun i cs a hi ha => ok.keep (h4 i cs a hi ha) (Kp.sub fun b hb => ⟨hB b hb.1, hb.2⟩), h5, fun k hk => hB k (h6 k hk)⟩
theorem OL.low {base' : Nat} (h : OL R size w base e lo B av A n c l) (hb : base' ≤ base) : OL R size w base' e lo B av A n c l := by
  obtain ⟨css, h1, h2, h3, h4, h5⟩ := h
  refine ⟨css, h1, h2, ⟨h3.1, ?_⟩, h4, h5⟩
  rcases h3.2 with h3 | ⟨g, cap, cur, hv, hg, hh, r⟩
  · exact .inl h3
  · exact .inr ⟨g, cap, cur, hv, Nat.le_trans hb hg, hh, r⟩
/-- append of elements that read, and lie outside the row's own block. -/
theorem wpl_appL {P : Program} {ops : Array Oper} {rest : List Oper} {o : Oper} {a : Act} {Q : Exit → Act → World → Prop} (hgd : o.guard = none) (s x : Operand) (t : TypeId)
    (ho : o.op = .call { callee := .builtin .append, args := #[s, x], argTypes := #[t, t] })
    (ok : R.Ok size) (z : Value) (bytes : Nat) (ht : P.underlying t = some (.slice e)) (hinfo : (P.info? e).map (fun i => (i.zero, i.size, i.bytes)) = some (some z, size, bytes)) (hzs : z.cells.size = size) (hsz : 0 < size)
    (hs : a.eval s = .slice A n c) (h : OL R size w base e lo B av A n c l) (hB : B ≤ w.heap.size) (hav : ∀ x ∈ av, x < w.heap.size) (hlo : lo ≤ w.heap.size)
    (A' : Option Addr) (m c' : Nat) (l' : List α) (hx : a.eval x = .slice A' m c') {S : Nat → Prop} (hr : DL R size w S A' m l') (hS : ∀ b, S b → b < w.heap.size)
    (hel : ∀ (cs : List Value) (x : α), x ∈ l' → R w S cs x → R w (fun b => Un lo w.heap.size av b ∧ some b ≠ Value.ownBlock (.slice A n c)) cs x)
    (hb1 : l.length + l'.length ≤ 17592186044416) (hbytes : (l.length + l'.length) * bytes ≤ 140737488355328) (hbase : base ≤ w.heap.size)
    (hk : ∀ (A2 : Option Addr) (n2 c2 : Nat) (w' : World), OL R size w' base e lo w'.heap.size av A2 n2 c2 (l ++ l') → Below base w w' → w.grownBy w' (Value.ownBlock (.slice A n c)) → wpList P ops Q rest (a.put o.dst (.slice A2 n2 c2)) w') : wpList P ops Q (o :: rest) a w := by
  obtain ⟨css, h1, h2, h3, h4, h5, h6⟩ := h
  obtain ⟨dss, k1, k2, k3, k4, k5⟩ := hr
  refine wpl_appR hgd s x t ho e z size bytes ht hinfo hzs hsz base A n c css.flatten hs h3 w.heap.size A' m c' dss.flatten hx (k3.reads hS) ?_ (by unfold maxLen; omega) (by rw [h2, k2]; exact hbytes) hbase ?_
  · intro u hu
    obtain ⟨ds, hds, hu⟩ := List.mem_flatten.1 hu
    obtain ⟨i, hi⟩ := List.getElem?_of_mem hds
    have hil := (List.getElem?_eq_some_iff.1 hi).1
    exact ok.one (k4 i ds _ hi (List.getElem?_eq_getElem (by omega))) u hu
  · intro A2 c2 w' o' b' g' hat
    have hkp : Kp w w' (fun b => Un lo w.heap.size av b ∧ some b ≠ Value.ownBlock (.slice A n c)) (fun b => Un lo w'.heap.size av b ∧ some b ≠ Value.ownBlock (.slice A2 (n + m) c2)) := by
      intro b hb
      refine ⟨⟨⟨hb.1.1, Nat.lt_of_lt_of_le hb.1.2.1 g'.size, hb.1.2.2⟩, ?_⟩, g'.block b hb.1.2.1 hb.2⟩
      rcases hat with e | e
      · rw [e]; exact hb.2
      · rw [e]; intro e'; injection e' with e'; have := hb.1.2.1; omega
    have hlt2 : ∀ k, Value.ownBlock (.slice A2 (n + m) c2) = some k → k < w'.heap.size := fun k hk => (o'.lt k hk).2
    refine hk A2 (n + m) c2 w' ⟨css ++ dss, by simp [h1, k1], by simp [h2, k2], by rw [List.flatten_append]; exact o', fun i cs a hi ha => ?_, fun cs hcs => ?_, fun k hk => ⟨?_, hlt2 k hk, ?_⟩⟩ b' g'
    · rcases Nat.lt_or_ge i css.length with hlt | hge
      · rw [List.getElem?_append_left hlt] at hi
        rw [List.getElem?_append_left (by omega)] at ha
        exact ok.keep (ok.keep (h4 i cs a hi ha) (Kp.sub fun b hb => (⟨⟨hb.1.1, Nat.lt_of_lt_of_le hb.1.2.1 hB, hb.1.2.2⟩, hb.2⟩ : Un lo w.heap.size av b ∧ _))) hkp
      · rw [List.getElem?_append_right hge] at hi
        rw [List.getElem?_append_right (by omega)] at ha
        rw [h1] at hi
        exact ok.keep (hel cs a (List.mem_of_getElem? ha) (k4 _ cs a hi ha)) hkp
    · rcases List.mem_append.1 hcs with hcs | hcs
      · exact h5 cs hcs
      · exact k5 cs hcs
    · rcases hat with e | e
      · rw [e] at hk; exact (h6 k hk).1
      · rw [e] at hk; injection hk with hk; omega
    · rcases hat with e | e
      · rw [e] at hk; exact (h6 k hk).2.2
      · rw [e] at hk; injection hk with hk; subst hk; intro hm; have := hav _ hm; omega
theorem OL.own_ (h : OL R size w base e lo B av A n c l) : ∀ k, Value.ownBlock (.slice A n c) = some k → base ≤ k ∧ lo ≤ k ∧ k < B ∧ k ∉ av := by
  obtain ⟨_, _, _, h3, _, _, h6⟩ := h
  exact fun k hk => ⟨(h3.lt k hk).1, h6 k hk⟩
/-- As a list that reads, by its own footprint. -/
theorem OL.dlU (h : OL R size w base e lo B av A n c l) (ok : R.Ok size) : DL R size w (Un lo B av) A n l := by
  obtain ⟨css, h1, h2, h3, h4, h5, h6⟩ := h
  refine ⟨css, h1, h2, ⟨h3.1, fun hn => ?_⟩, fun i cs a hi ha => ok.keep (h4 i cs a hi ha) (Kp.sub fun b hb => hb.1), h5⟩
  obtain ⟨g, cap, hv, _, _⟩ := h3.form hn
  have hA : A = some ⟨g, 0, none⟩ := by injection hv
  subst hA
  exact ⟨g, 0, rfl, h6 g rfl, fun j u hu => by have := h3.cells (g := g) rfl j u hu; rwa [addr_add] at this⟩
end
/-- One element in a new block. -/
theorem DL.one {α : Type} {R : Rep α} {size : Nat} {w : World} (ok : R.Ok size) {S : Nat → Prop} {T : TypeId} {cs : List Value} {a : α} {g : Nat} (hg : Blk w g T cs.toArray) (hS : S g) (hr : R w S cs a) : DL R size w S (some ⟨g, 0, none⟩) 1 [a] := by
  refine ⟨[cs], rfl, rfl, ⟨by simp [ok.len hr], fun _ => ⟨g, 0, rfl, hS, fun j u hu => ?_⟩⟩, fun i ds b hi hb => ?_, fun ds h => ?_⟩
  · rw [hg.cell]
    simpa using hu
  · cases i with
    | zero =>
      simp at hi hb
      subst hi hb
      exact hr
    | succ i => simp at hi
  · simp at h
    subst h
    exact ok.len hr
/-- Bytes that read, by a footprint. -/
def BF (w : World) (S : Nat → Prop) (A : Option Addr) (n : Nat) (l : List UInt8) : Prop := n = l.length ∧ Rw w S 1 A n (bv l)
theorem BF.keep {w w' : World} {S S' : Nat → Prop} {A : Option Addr} {n : Nat} {l : List UInt8} (h : BF w S A n l) (hk : Kp w w' S S') : BF w' S' A n l := ⟨h.1, h.2.keep hk⟩
theorem BF.bs {w : World} {S : Nat → Prop} {A : Option Addr} {n B : Nat} {l : List UInt8} (h : BF w S A n l) (hS : ∀ b, S b → b < B) : BS w B A n l := ⟨h.1, h.2.reads hS⟩
theorem BF.lt {w : World} {A : Option Addr} {n B : Nat} {l : List UInt8} (h : BF w (Lt B) A n l) : BS w B A n l := h.bs fun _ hb => hb
theorem BF.of {w : World} {S : Nat → Prop} {A : Option Addr} {n B : Nat} {l : List UInt8} (h : BS w B A n l) (hS : ∀ b, b < B → S b) : BF w S A n l := ⟨h.1, Rw.of_reads h.2 (by omega) hS⟩
theorem BF.own {w : World} {T base n c : Nat} {A : Option Addr} {l : List UInt8} (h : OB w T base A n c l) : BF w (Fr base w) A n l := by
  refine ⟨h.1, (bv_length l).trans (by have := h.1; omega), fun hn => ?_⟩
  obtain ⟨g, cap, hv, hg, hlt⟩ := h.2.form hn
  have hA : A = some ⟨g, 0, none⟩ := by injection hv
  subst hA
  exact ⟨g, 0, rfl, ⟨hg, hlt⟩, fun j u hu => by have := h.2.cells (g := g) rfl j u hu; rwa [addr_add] at this⟩
/-- Numbers of a literal, as bytes. -/
theorem BS.vals (w : World) (T : Nat) (xs : List Int) (h : ∀ x ∈ xs, 0 ≤ x ∧ x ≤ 255) {g : Nat} (hg : g = w.heap.size) : BS (w.alloc (.cells (xs.map (Value.int .u8)).toArray T)) (g + 1) (some ⟨g, 0, none⟩) xs.length (xs.map ub) := by
  subst hg
  have e : bv (xs.map ub) = xs.map (Value.int .u8) := by
    rw [bv, List.map_map]
    refine List.map_congr_left fun x hx => ?_
    simp only [Function.comp]
    rw [ub_toNat (h x hx).1 (h x hx).2]
  refine ⟨by simp, by rw [e]; simp, fun _ => ⟨_, rfl, by simp, fun j u hu => ?_⟩⟩
  rw [e] at hu
  rw [addr_add, Nat.zero_add, (Blk.new w T (xs.map (Value.int .u8)).toArray).cell]
  simpa using hu
theorem box1c (w : World) (c1 : Array Value) (t1 : TypeId) : ∃ W, w.alloc (.cells c1 t1) = W ∧ Blk W w.heap.size t1 c1 ∧ Below w.heap.size w W := ⟨_, rfl, Blk.new w t1 c1, (Below.refl _ _).alloc (Nat.le_refl _) _⟩
theorem boxes2 (w : World) (c1 c2 : Array Value) (t1 t2 : TypeId) : ∃ W, (w.alloc (.cells c1 t1)).alloc (.cells c2 t2) = W ∧ Blk W w.heap.size t1 c1 ∧ Blk W (w.heap.size + 1) t2 c2 ∧ Below w.heap.size w W := by
  have hz : (w.alloc (.cells c1 t1)).heap.size = w.heap.size + 1 := by simp
  have h2 := Blk.new (w.alloc (.cells c1 t1)) t2 c2
  rw [hz] at h2
  exact ⟨_, rfl, (Blk.new w t1 c1).alloc _, h2, ((Below.refl _ _).alloc (Nat.le_refl _) _).alloc (by omega) _⟩
/-- Numbers of kind k in cells. -/
def rNum (k : IntKind) : Rep Int := fun _ _ cs x => cs = [.int k x] ∧ (Lit.int k x).wf = true
theorem rNum_ok (k : IntKind) : (rNum k).Ok 1 where
  len := by rintro w S cs a ⟨rfl, _⟩; rfl
  one := by rintro w S cs a ⟨rfl, _⟩ u hu; simp at hu; subst hu; rfl
  keep := by rintro w w' S S' cs a h _; exact h
end Go.Proofs.YthgjknmfghjioaaDoor
