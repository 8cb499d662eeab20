/- Layer 4 (attributes): how a reading stands in cells, and what keeps it. No conditions. -/
import Derived.Test.YtlpkngjeihoknaaDoorProg
import Derived.WalkKit
import Derived.WalkSpells
import Derived.WalkLawsBesides
import Derived.Outline
import Derived.Deep.QuietTactic
import Derived.BigQuiet
import Derived.Handy
import Derived.Lib.Hide
import Derived.Laws.Cover4
import Derived.OrdersHeld
import Derived.Deep.RegionHeld
import Derived.Deep.DeepCutAuto
import Derived.Deep.CutBlock
import Derived.Test.YtlpkngjeihoknaaDoorAttL
import Derived.Test.YtlpkngjeihoknaaDoorAspU
import Derived.Test.YtlpkngjeihoknaaDoorInsR
namespace Go.Proofs.YtlpkngjeihoknaaDoor
open Go.RowKit
set_option linter.unusedSimpArgs false
set_option linter.unusedVariables false
/-- Where the slices of a reading lie: path, communities, raws, kinds, more, the new number. -/
structure GH where
  pa : Option Addr
  pn : Nat
  pc : Nat
  ca : Option Addr
  cn : Nat
  cc : Nat
  ra : Option Addr
  rn : Nat
  rc : Nat
  ka : Option Addr
  kn : Nat
  kc : Nat
  ma : Option Addr
  mn : Nat
  mc : Nat
  na : Option Addr
  nn : Nat
  nc : Nat
def GH.cb (h : GH) : Option Nat := Value.ownBlock (.slice h.ca h.cn h.cc)
def GH.rb (h : GH) : Option Nat := Value.ownBlock (.slice h.ra h.rn h.rc)
def GH.kb (h : GH) : Option Nat := Value.ownBlock (.slice h.ka h.kn h.kc)
/-- The blocks that a reading does not write. -/
def Qt (w : World) (gs : List Nat) (x y z : Option Nat) : Nat → Prop := fun b => b < w.heap.size ∧ b ∉ gs ∧ some b ≠ x ∧ some b ≠ y ∧ some b ≠ z
abbrev GH.qt (h : GH) (w : World) (gs : List Nat) : Nat → Prop := Qt w gs h.cb h.rb h.kb
/-- Raws of the call's own. -/
def OR (w : World) (base : Nat) (S : Nat → Prop) (A : Option Addr) (n c : Nat) (l : List RawV) : Prop :=
  ∃ css : List (List Value), css.length = l.length ∧ n = l.length ∧ w.ownsRow base 100 3 (.slice A n c) n css.flatten ∧ (∀ (i : Nat) (cs : List Value) (a : RawV), css[i]? = some cs → l[i]? = some a → rRaw w S cs a) ∧ ∀ cs ∈ css, cs.length = 3
theorem OR.len {w : World} {base n c : Nat} {S : Nat → Prop} {A : Option Addr} {l : List RawV} (h : OR w base S A n c l) : n = l.length := by obtain ⟨_, _, h, _⟩ := h; exact h
theorem OR.own {w : World} {base n c : Nat} {S : Nat → Prop} {A : Option Addr} {l : List RawV} (h : OR w base S A n c l) : ∃ css : List (List Value), w.ownsRow base 100 3 (.slice A n c) n css.flatten := by obtain ⟨css, _, _, h, _⟩ := h; exact ⟨css, h⟩
theorem OR.dl {w : World} {base n c : Nat} {S : Nat → Prop} {A : Option Addr} {l : List RawV} (h : OR w base S A n c l) (hS : ∀ b, S b → b < w.heap.size) : DL rRaw 3 w (Lo w) A n l := by
  obtain ⟨css, h1, h2, h3, h4, h5⟩ := h
  exact ⟨css, h1, h2, Rw.of_reads (Reads.of_own h3) (by omega) (fun b hb => hb), fun i cs a hi ha => rRaw_ok.keep (h4 i cs a hi ha) (Kp.sub fun b hb => hS b hb), h5⟩
theorem OR.keep {w w' : World} {base n c : Nat} {S S' : Nat → Prop} {A : Option Addr} {l : List RawV} (h : OR w base S A n c l) (hk : Kp w w' S S') (ho : ∀ k, Value.ownBlock (.slice A n c) = some k → w'.heap[k]? = w.heap[k]?) : OR w' base S' A n c l := by
  obtain ⟨css, h1, h2, h3, h4, h5⟩ := h
  exact ⟨css, h1, h2, own_keep h3 ho, fun i cs a hi ha => rRaw_ok.keep (h4 i cs a hi ha) hk, h5⟩
/-- What a reading's slices say. -/
structure GQ (w : World) (B g : Nat) (gs : List Nat) (h : GH) (path more : List Seg) (comms kinds : List Int) (raws : List RawV) (news : List UInt8) : Prop where
  path : DL rSeg 2 w (h.qt w gs) h.pa h.pn path
  more : DL rSeg 2 w (h.qt w gs) h.ma h.mn more
  comms : OU w B h.ca h.cn h.cc comms
  kinds : OI w B h.ka h.kn h.kc kinds
  raws : OR w B (h.qt w gs) h.ra h.rn h.rc raws
  news : BF w (h.qt w gs) h.na h.nn news
  nnc : h.nn ≤ h.nc
  lo : B ≤ g
  hi : g < w.heap.size
  mem : g ∈ gs
  gsl : ∀ x ∈ gs, x < w.heap.size
  sep : ∀ x ∈ gs, some x ≠ h.cb ∧ some x ≠ h.rb ∧ some x ≠ h.kb
section
variable {w w' : World} {B g : Nat} {gs : List Nat} {h : GH} {path more : List Seg} {comms kinds : List Int} {raws : List RawV} {news : List UInt8}
theorem Qt.lt {x y z : Option Nat} : ∀ b, Qt w gs x y z b → b < w.heap.size := fun _ hb => hb.1
theorem GQ.keep (Q : GQ w B g gs h path more comms kinds raws news) (hz : w.heap.size ≤ w'.heap.size) (hk : Kp w w' (h.qt w gs) (h.qt w' gs)) (h1 : ∀ k, h.cb = some k → w'.heap[k]? = w.heap[k]?) (h2 : ∀ k, h.rb = some k → w'.heap[k]? = w.heap[k]?) (h3 : ∀ k, h.kb = some k → w'.heap[k]? = w.heap[k]?) : GQ w' B g gs h path more comms kinds raws news where
  path := Q.path.keep rSeg_ok hk
  more := Q.more.keep rSeg_ok hk
  comms := ⟨Q.comms.1, own_keep Q.comms.2.1 h1, Q.comms.2.2⟩
  kinds := ⟨Q.kinds.1, own_keep Q.kinds.2 h3⟩
  raws := Q.raws.keep hk h2
  news := Q.news.keep hk
  nnc := Q.nnc
  lo := Q.lo
  hi := Nat.lt_of_lt_of_le Q.hi hz
  mem := Q.mem
  gsl := fun x hx => Nat.lt_of_lt_of_le (Q.gsl x hx) hz
  sep := Q.sep
theorem GQ.cbl (Q : GQ w B g gs h path more comms kinds raws news) : ∀ k, h.cb = some k → B ≤ k ∧ k < w.heap.size := fun k hk => Q.comms.2.1.lt k hk
theorem GQ.kbl (Q : GQ w B g gs h path more comms kinds raws news) : ∀ k, h.kb = some k → B ≤ k ∧ k < w.heap.size := fun k hk => Q.kinds.2.lt k hk
theorem GQ.rbl (Q : GQ w B g gs h path more comms kinds raws news) : ∀ k, h.rb = some k → B ≤ k ∧ k < w.heap.size := fun k hk => by
  obtain ⟨css, ho⟩ := Q.raws.own
  exact ho.lt k hk
theorem Kp.qt {x y z : Option Nat} (hz : w.heap.size ≤ w'.heap.size) (hb : ∀ b, Qt w gs x y z b → w'.heap[b]? = w.heap[b]?) : Kp w w' (Qt w gs x y z) (Qt w' gs x y z) := fun b h => ⟨⟨Nat.lt_of_lt_of_le h.1 hz, h.2⟩, hb b h⟩
/-- A call that writes nothing that was there. -/
theorem GQ.kcall (h : GH) (hb : Below w.heap.size w w') : Kp w w' (h.qt w gs) (h.qt w' gs) := Kp.qt hb.size fun b h => hb.block b h.1
theorem GQ.call (Q : GQ w B g gs h path more comms kinds raws news) (hb : Below w.heap.size w w') : GQ w' B g gs h path more comms kinds raws news :=
  Q.keep hb.size (GQ.kcall h hb) (fun k hk => hb.block k (Q.cbl k hk).2) (fun k hk => hb.block k (Q.rbl k hk).2) (fun k hk => hb.block k (Q.kbl k hk).2)
/-- A step that writes one block that is no part of the slices. -/
theorem GQ.kat {p : Nat} (h : GH) (hp : p ∈ gs) (hg : w.grownBy w' (some p)) : Kp w w' (h.qt w gs) (h.qt w' gs) := Kp.qt hg.size fun b h => hg.block b h.1 (fun e => h.2.1 (by injection e with e; rw [e]; exact hp))
theorem GQ.at_ {p : Nat} {T : TypeId} {cs : Array Value} (Q : GQ w B g gs h path more comms kinds raws news) (hb : Blk w p T cs) (hp : p ∈ gs) (t1 : 33 ≠ T) (t2 : 100 ≠ T) (t3 : 3 ≠ T) (hg : w.grownBy w' (some p)) : GQ w' B g gs h path more comms kinds raws news := by
  obtain ⟨css, ho⟩ := Q.raws.own
  have k1 : h.cb ≠ some p := own_blk_ne Q.comms.2.1 hb t1
  have k2 : h.rb ≠ some p := own_blk_ne ho hb t2
  have k3 : h.kb ≠ some p := own_blk_ne Q.kinds.2 hb t3
  exact Q.keep hg.size (GQ.kat h hp hg) (fun k hk => hg.block k (Q.cbl k hk).2 (fun e => k1 (hk.trans e))) (fun k hk => hg.block k (Q.rbl k hk).2 (fun e => k2 (hk.trans e))) (fun k hk => hg.block k (Q.kbl k hk).2 (fun e => k3 (hk.trans e)))
/-- A block more that is no part of the slices; and one less. -/
theorem GQ.kadd {q : Nat} (h : GH) (hb : Below w.heap.size w w') (hq : w.heap.size ≤ q) : Kp w w' (h.qt w gs) (h.qt w' (q :: gs)) := fun b hb' => ⟨⟨Nat.lt_of_lt_of_le hb'.1 hb.size, fun hm => by
  rcases List.mem_cons.1 hm with rfl | hm
  · have := hb'.1; omega
  · exact hb'.2.1 hm, hb'.2.2⟩, hb.block b hb'.1⟩
theorem GQ.kdrop {q : Nat} (w : World) (h : GH) : Kp w w (h.qt w (q :: gs)) (h.qt w gs) := Kp.sub fun b hb => ⟨hb.1, fun hm => hb.2.1 (List.mem_cons_of_mem _ hm), hb.2.2⟩
theorem GQ.add {q : Nat} (Q : GQ w B g gs h path more comms kinds raws news) (hb : Below w.heap.size w w') (hq : w.heap.size ≤ q) (hq' : q < w'.heap.size) : GQ w' B g (q :: gs) h path more comms kinds raws news where
  path := Q.path.keep rSeg_ok (GQ.kadd h hb hq)
  more := Q.more.keep rSeg_ok (GQ.kadd h hb hq)
  comms := Q.comms.call hb
  kinds := Q.kinds.below hb
  raws := Q.raws.keep (GQ.kadd h hb hq) (fun k hk => hb.block k (Q.rbl k hk).2)
  news := Q.news.keep (GQ.kadd h hb hq)
  nnc := Q.nnc
  lo := Q.lo
  hi := Nat.lt_of_lt_of_le Q.hi hb.size
  mem := List.mem_cons_of_mem _ Q.mem
  gsl := fun x hx => by
    rcases List.mem_cons.1 hx with rfl | hx
    · exact hq'
    · exact Nat.lt_of_lt_of_le (Q.gsl x hx) hb.size
  sep := fun x hx => by
    rcases List.mem_cons.1 hx with rfl | hx
    · exact ⟨fun e => by have := (Q.cbl x e.symm).2; omega, fun e => by have := (Q.rbl x e.symm).2; omega, fun e => by have := (Q.kbl x e.symm).2; omega⟩
    · exact Q.sep x hx
theorem GQ.drop {q : Nat} (Q : GQ w B g (q :: gs) h path more comms kinds raws news) (hm : g ∈ gs) : GQ w B g gs h path more comms kinds raws news where
  path := Q.path.keep rSeg_ok (GQ.kdrop w h)
  more := Q.more.keep rSeg_ok (GQ.kdrop w h)
  comms := Q.comms
  kinds := Q.kinds
  raws := Q.raws.keep (GQ.kdrop w h) (fun k hk => rfl)
  news := Q.news.keep (GQ.kdrop w h)
  nnc := Q.nnc
  lo := Q.lo
  hi := Q.hi
  mem := hm
  gsl := fun x hx => Q.gsl x (List.mem_cons_of_mem _ hx)
  sep := fun x hx => Q.sep x (List.mem_cons_of_mem _ hx)
/-- One kind more. -/
theorem GQ.kinds_push {A2 : Option Addr} {n2 c2 : Nat} {l : List Int} (Q : GQ w B g gs h path more comms kinds raws news) (ho : OI w' B A2 n2 c2 l) (hg : w.grownBy w' (Value.ownBlock (.slice h.ka h.kn h.kc))) (hat : Value.ownBlock (.slice A2 n2 c2) = Value.ownBlock (.slice h.ka h.kn h.kc) ∨ Value.ownBlock (.slice A2 n2 c2) = some w.heap.size) :
    GQ w' B g gs { h with ka := A2, kn := n2, kc := c2 } path more comms l raws news ∧ ∀ ks, Kp w w' (h.qt w ks) (GH.qt { h with ka := A2, kn := n2, kc := c2 } w' ks) := by
  have hk0 : ∀ ks, Kp w w' (h.qt w ks) (GH.qt { h with ka := A2, kn := n2, kc := c2 } w' ks) := fun ks b hb => by
    refine ⟨⟨Nat.lt_of_lt_of_le hb.1 hg.size, hb.2.1, hb.2.2.1, hb.2.2.2.1, ?_⟩, hg.block b hb.1 hb.2.2.2.2⟩
    intro e
    rcases hat with h1 | h1
    · exact hb.2.2.2.2 (e.trans h1)
    · have := e.trans h1
      injection this with this
      have := hb.1
      omega
  have hk := hk0 gs
  obtain ⟨css, hor⟩ := Q.raws.own
  have hc : w'.ownsRow B 33 1 (.slice h.ca h.cn h.cc) h.cn (un comms) := own_own Q.comms.2.1 Q.kinds.2 (by decide) hg
  refine ⟨⟨Q.path.keep rSeg_ok hk, Q.more.keep rSeg_ok hk, ⟨Q.comms.1, hc, Q.comms.2.2⟩, ho, Q.raws.keep hk (fun k hk => ?_), Q.news.keep hk, Q.nnc, Q.lo, Nat.lt_of_lt_of_le Q.hi hg.size, Q.mem, fun x hx => Nat.lt_of_lt_of_le (Q.gsl x hx) hg.size, fun x hx => ⟨(Q.sep x hx).1, (Q.sep x hx).2.1, (fun e => by
    rcases hat with h1 | h1
    · exact (Q.sep x hx).2.2 (e.trans h1)
    · have e2 := e.trans h1
      injection e2 with e2
      have := Q.gsl x hx
      omega)⟩⟩, hk0⟩
  have hlt := Q.rbl k hk
  refine hg.block k hlt.2 ?_
  intro e
  have hk' : Value.ownBlock (.slice h.ra h.rn h.rc) = some k := hk
  rcases hor.2 with ⟨hv, _⟩ | ⟨g1, cap, cur, hv, _, hh, _⟩
  · rw [hv] at hk'; simp [Value.ownBlock] at hk'
  · rw [hv] at hk'
    simp [Value.ownBlock] at hk'
    subst hk'
    exact own_blk_ne Q.kinds.2 (show Blk w g1 100 cur from hh) (by decide) e.symm
/-- Numbers more. -/
theorem GQ.comms_push {A2 : Option Addr} {n2 c2 : Nat} {l : List Int} (Q : GQ w B g gs h path more comms kinds raws news) (ho : OU w' B A2 n2 c2 l) (hg : w.grownBy w' (Value.ownBlock (.slice h.ca h.cn h.cc))) (hat : Value.ownBlock (.slice A2 n2 c2) = Value.ownBlock (.slice h.ca h.cn h.cc) ∨ Value.ownBlock (.slice A2 n2 c2) = some w.heap.size) :
    GQ w' B g gs { h with ca := A2, cn := n2, cc := c2 } path more l kinds raws news ∧ ∀ ks, Kp w w' (h.qt w ks) (GH.qt { h with ca := A2, cn := n2, cc := c2 } w' ks) := by
  have hk0 : ∀ ks, Kp w w' (h.qt w ks) (GH.qt { h with ca := A2, cn := n2, cc := c2 } w' ks) := fun ks b hb => by
    refine ⟨⟨Nat.lt_of_lt_of_le hb.1 hg.size, hb.2.1, ?_, hb.2.2.2.1, hb.2.2.2.2⟩, hg.block b hb.1 hb.2.2.1⟩
    intro e
    rcases hat with h1 | h1
    · exact hb.2.2.1 (e.trans h1)
    · have := e.trans h1
      injection this with this
      have := hb.1
      omega
  have hk := hk0 gs
  obtain ⟨css, hor⟩ := Q.raws.own
  have hc : w'.ownsRow B 3 1 (.slice h.ka h.kn h.kc) h.kn (iv kinds) := own_own Q.kinds.2 Q.comms.2.1 (by decide) hg
  refine ⟨⟨Q.path.keep rSeg_ok hk, Q.more.keep rSeg_ok hk, ho, ⟨Q.kinds.1, hc⟩, Q.raws.keep hk (fun k hk => ?_), Q.news.keep hk, Q.nnc, Q.lo, Nat.lt_of_lt_of_le Q.hi hg.size, Q.mem, fun x hx => Nat.lt_of_lt_of_le (Q.gsl x hx) hg.size, fun x hx => ⟨(fun e => by
    rcases hat with h1 | h1
    · exact (Q.sep x hx).1 (e.trans h1)
    · have e2 := e.trans h1
      injection e2 with e2
      have := Q.gsl x hx
      omega), (Q.sep x hx).2.1, (Q.sep x hx).2.2⟩⟩, hk0⟩
  have hlt := Q.rbl k hk
  refine hg.block k hlt.2 ?_
  intro e
  have hk' : Value.ownBlock (.slice h.ra h.rn h.rc) = some k := hk
  rcases hor.2 with ⟨hv, _⟩ | ⟨g1, cap, cur, hv, _, hh, _⟩
  · rw [hv] at hk'; simp [Value.ownBlock] at hk'
  · rw [hv] at hk'
    simp [Value.ownBlock] at hk'
    subst hk'
    exact own_blk_ne Q.comms.2.1 (show Blk w g1 100 cur from hh) (by decide) e.symm
/-- Other paths. -/
theorem GQ.setPath {A : Option Addr} {n c : Nat} {l : List Seg} (Q : GQ w B g gs h path more comms kinds raws news) (hd : DL rSeg 2 w (h.qt w gs) A n l) : GQ w B g gs { h with pa := A, pn := n, pc := c } l more comms kinds raws news := ⟨hd, Q.more, Q.comms, Q.kinds, Q.raws, Q.news, Q.nnc, Q.lo, Q.hi, Q.mem, Q.gsl, Q.sep⟩
theorem GQ.setMore {A : Option Addr} {n c : Nat} {l : List Seg} (Q : GQ w B g gs h path more comms kinds raws news) (hd : DL rSeg 2 w (h.qt w gs) A n l) : GQ w B g gs { h with ma := A, mn := n, mc := c } path l comms kinds raws news := ⟨Q.path, hd, Q.comms, Q.kinds, Q.raws, Q.news, Q.nnc, Q.lo, Q.hi, Q.mem, Q.gsl, Q.sep⟩
theorem GQ.setNews {A : Option Addr} {n c : Nat} {l : List UInt8} (Q : GQ w B g gs h path more comms kinds raws news) (hd : BF w (h.qt w gs) A n l) (hc : n ≤ c) : GQ w B g gs { h with na := A, nn := n, nc := c } path more comms kinds raws l := ⟨Q.path, Q.more, Q.comms, Q.kinds, Q.raws, hd, hc, Q.lo, Q.hi, Q.mem, Q.gsl, Q.sep⟩
/-- What goes on for one block goes on for more. -/
theorem Kp.wide {h' : GH} (hk : Kp w w' (h.qt w [g]) (h'.qt w' [g])) (hm : g ∈ gs) : Kp w w' (h.qt w gs) (h'.qt w' gs) := fun b hb => by
  have h1 := hk b ⟨hb.1, fun e => hb.2.1 (by rw [List.mem_singleton.1 e]; exact hm), hb.2.2⟩
  exact ⟨⟨h1.1.1, hb.2.1, h1.1.2.2⟩, h1.2⟩
/-- Blocks beside the reading. -/
theorem GQ.side (Q : GQ w B g gs h path more comms kinds raws news) {b : Nat} (hb : b ∈ gs) (hne : b ≠ g) : h.qt w [g] b := ⟨Q.gsl b hb, fun e => hne (List.mem_singleton.1 e), Q.sep b hb⟩
/-- What is new lies where a reading does not write. -/
theorem GQ.fresh (Q : GQ w B g gs h path more comms kinds raws news) (hz : w.heap.size ≤ w'.heap.size) : ∀ b, w.heap.size ≤ b → b < w'.heap.size → h.qt w' gs b := fun b h1 h2 => by
  refine ⟨h2, ?_, ?_, ?_, ?_⟩
  · intro hm; have := Q.gsl b hm; omega
  · intro e; have := (Q.cbl b e.symm).2; omega
  · intro e; have := (Q.rbl b e.symm).2; omega
  · intro e; have := (Q.kbl b e.symm).2; omega
end
/-- A path of the call's own, by its own footprint. -/
theorem OP.dlF {w : World} {base n c : Nat} {A : Option Addr} {L : List (Seg × Hd)} {S : Nat → Prop} (h : OP w base A n c L) (hS : ∀ b, base ≤ b → b < w.heap.size → S b) : DL rSeg 2 w S A n (L.map (·.1)) := by
  refine ⟨L.map segC, by simp, by rw [List.length_map]; exact h.1, ?_, fun i cs a hi ha => ?_, fun cs hcs => ?_⟩
  · have e : (L.map segC).flatten = segsC L := by simp [segsC, List.flatMap]
    rw [e]
    refine ⟨h.2.1.1, fun hn => ?_⟩
    obtain ⟨g, cap, hv, hg, hlt⟩ := h.2.1.form hn
    have hA : A = some ⟨g, 0, none⟩ := by injection hv
    subst hA
    exact ⟨g, 0, rfl, hS g hg hlt, fun j u hu => by have := h.2.1.cells (g := g) rfl j u hu; rwa [addr_add] at this⟩
  · rw [List.getElem?_map] at hi ha
    obtain ⟨y, hy, rfl⟩ := Option.map_eq_some_iff.1 hi
    rw [hy] at ha
    simp only [Option.map_some, Option.some.injEq] at ha
    subst ha
    have hm := h.2.2.1 y (List.mem_of_getElem? hy)
    refine ⟨y.2.1, y.2.2.1, y.2.2.2, rfl, ⟨hm.1, ⟨by rw [un_length]; have := hm.1; omega, fun hn => ?_⟩, hm.2.2⟩, own_cap hm.2.1⟩
    obtain ⟨g, cap, hv, hg, hlt⟩ := hm.2.1.form hn
    have hA : y.2.1 = some ⟨g, 0, none⟩ := by injection hv
    rw [hA] at hm ⊢
    exact ⟨g, 0, rfl, hS g hg hlt, fun j u hu => by have := hm.2.1.cells (g := g) rfl j u hu; rwa [addr_add] at this⟩
  · obtain ⟨y, _, rfl⟩ := List.mem_map.1 hcs
    rfl
theorem BF.ownF {w : World} {T base n c : Nat} {A : Option Addr} {l : List UInt8} {S : Nat → Prop} (h : OB w T base A n c l) (hS : ∀ b, base ≤ b → b < w.heap.size → S b) : BF w S A n l := by
  refine ⟨h.1, (bv_length l).trans (by have := h.1; omega), fun hn => ?_⟩
  obtain ⟨g, cap, hv, hg, hlt⟩ := h.2.form hn
  have hA : A = some ⟨g, 0, none⟩ := by injection hv
  subst hA
  exact ⟨g, 0, rfl, hS g hg hlt, fun j u hu => by have := h.2.cells (g := g) rfl j u hu; rwa [addr_add] at this⟩
/-- append onto numbers of the call's own, with what it writes. -/
theorem wpl_appI2 {w : World} {ops : Array Oper} {rest : List Oper} {o : Oper} {a : Act} {Q : Exit → Act → World → Prop} (hgd : o.guard = none) (s x : Operand)
    (ho : o.op = .call { callee := .builtin .append, args := #[s, x], argTypes := #[67, 67] })
    (base : Nat) (A : Option Addr) (n c : Nat) (l : List Int) (hs : a.eval s = .slice A n c) (hown : OI w base A n c l)
    (B : Nat) (A' : Option Addr) (m c' : Nat) (l' : List Int) (hx : a.eval x = .slice A' m c') (hr : Reads w B 1 A' m (iv l'))
    (hlen : l.length + l'.length ≤ 17592186044416) (hbase : base ≤ w.heap.size)
    (h : ∀ (A2 : Option Addr) (n2 c2 : Nat) (w' : World), OI w' base A2 n2 c2 (l ++ l') → Below base w w' → w.grownBy w' (Value.ownBlock (.slice A n c)) → (Value.ownBlock (.slice A2 n2 c2) = Value.ownBlock (.slice A n c) ∨ Value.ownBlock (.slice A2 n2 c2) = some w.heap.size) → wpList Tryd.prog ops Q rest (a.put o.dst (.slice A2 n2 c2)) w') : wpList Tryd.prog ops Q (o :: rest) a w := by
  obtain ⟨i, hi, hz, h1, h2⟩ : ∃ i, Tryd.prog.info? 3 = some i ∧ i.zero = some (.int .i64 0) ∧ i.size = 1 ∧ i.bytes = 8 := by
    have := i64info
    simp only [Option.map_eq_some_iff, Prod.mk.injEq] at this
    exact this
  have e1 := hown.1
  have e2 : m = l'.length := by have := hr.1; rw [iv_length] at this; omega
  refine wpList_append_any w hgd s x 67 ho base 3 i (.int .i64 0) 1 8 Tryd.underlying67 hi hz h1 h2 rfl (by omega) (.slice A n c) n (iv l) hs hown.2 B A' m c' (iv l') hx hr (iv_one l') (by unfold maxLen; omega) (by omega) hbase ?_
  intro v' w' hown' hg hat
  have hlen' : n + m = (l ++ l').length := by rw [List.length_append]; omega
  have hform : ∃ A2 c2, v' = .slice A2 (n + m) c2 := by
    rcases hown'.2 with ⟨rfl, hnil⟩ | ⟨g, cap, cur, hv, _⟩
    · exact ⟨none, 0, by rw [hnil]⟩
    · exact ⟨_, _, hv⟩
  obtain ⟨A2, c2, rfl⟩ := hform
  refine h A2 (n + m) c2 w' ⟨hlen', by rw [iv_append]; exact hown'⟩ ((Below.refl base w).grown hg hbase (fun k hk => ?_)) hg hat
  rcases hown.2.2 with ⟨hv, _⟩ | ⟨g, cap, cur, hv, hgb, _⟩
  · rw [hv] at hk; simp [Value.ownBlock] at hk
  · rw [hv] at hk; simp [Value.ownBlock] at hk; omega
theorem rRaw_cells {w : World} {S : Nat → Prop} {A : Option Addr} {n c : Nat} {k : Int} {v : List UInt8} (h : BF w S A n v) (hc : n ≤ c) (hk : 0 ≤ k ∧ k ≤ 255) : rRaw w S [.int .i64 224, .int .i64 k, .slice A n c] (224, k, v) :=
  ⟨A, n, c, rfl, h, hc, rfl, by show (Lit.int .i64 k).wf = true; simp [Lit.wf, IntKind.min, IntKind.max, IntKind.signed, IntKind.bits]; omega⟩
theorem take_flat3 {css : List (List Value)} {cs : List Value} (h : ∀ c ∈ css, c.length = 3) (i : Nat) : css.flatten.take (i * 3) ++ cs ++ css.flatten.drop (i * 3) = (css.take i ++ [cs] ++ css.drop i).flatten := by
  rw [flat_take h, flat_drop h]
  simp
/-- A raw more, where it belongs. -/
theorem GQ.raws_ins {w w' : World} {B g : Nat} {gs : List Nat} {h : GH} {path more : List Seg} {comms kinds : List Int} {raws : List RawV} {news : List UInt8} {css : List (List Value)} {cs : List Value} {x : RawV} {A2 : Option Addr} {c2 i : Nat} (Q : GQ w B g gs h path more comms kinds raws news)
    (h1 : css.length = raws.length) (h4 : ∀ (i : Nat) (cs : List Value) (a : RawV), css[i]? = some cs → raws[i]? = some a → rRaw w (h.qt w gs) cs a) (h5 : ∀ cs ∈ css, cs.length = 3) (h3 : w.ownsRow B 100 3 (.slice h.ra h.rn h.rc) h.rn css.flatten)
    (hx : rRaw w (h.qt w gs) cs x) (hi : i ≤ raws.length) (ho : w'.ownsRow B 100 3 (.slice A2 (h.rn + 1) c2) (h.rn + 1) (css.flatten.take (i * 3) ++ cs ++ css.flatten.drop (i * 3)))
    (hg : w.grownBy w' (Value.ownBlock (.slice h.ra h.rn h.rc))) (hat : Value.ownBlock (.slice A2 (h.rn + 1) c2) = Value.ownBlock (.slice h.ra h.rn h.rc) ∨ Value.ownBlock (.slice A2 (h.rn + 1) c2) = some w.heap.size) :
    GQ w' B g gs { h with ra := A2, rn := h.rn + 1, rc := c2 } path more comms kinds (raws.take i ++ [x] ++ raws.drop i) news ∧ ∀ ks, Kp w w' (h.qt w ks) (GH.qt { h with ra := A2, rn := h.rn + 1, rc := c2 } w' ks) := by
  have hk0 : ∀ ks, Kp w w' (h.qt w ks) (GH.qt { h with ra := A2, rn := h.rn + 1, rc := c2 } w' ks) := fun ks b hb => by
    refine ⟨⟨Nat.lt_of_lt_of_le hb.1 hg.size, hb.2.1, hb.2.2.1, ?_, hb.2.2.2.2⟩, hg.block b hb.1 hb.2.2.2.1⟩
    intro e
    rcases hat with h1 | h1
    · exact hb.2.2.2.1 (e.trans h1)
    · have := e.trans h1
      injection this with this
      have := hb.1
      omega
  have hk := hk0 gs
  have hn := Q.raws.len
  have hcl := rRaw_ok.len hx
  have hc : w'.ownsRow B 33 1 (.slice h.ca h.cn h.cc) h.cn (un comms) := own_own Q.comms.2.1 h3 (by decide) hg
  have hki : w'.ownsRow B 3 1 (.slice h.ka h.kn h.kc) h.kn (iv kinds) := own_own Q.kinds.2 h3 (by decide) hg
  refine ⟨⟨Q.path.keep rSeg_ok hk, Q.more.keep rSeg_ok hk, ⟨Q.comms.1, hc, Q.comms.2.2⟩, ⟨Q.kinds.1, hki⟩, ⟨css.take i ++ [cs] ++ css.drop i, ?_, ?_, ?_, fun j ds a hj ha => ?_, fun ds hds => ?_⟩, Q.news.keep hk, Q.nnc, Q.lo, Nat.lt_of_lt_of_le Q.hi hg.size, Q.mem, fun x hx => Nat.lt_of_lt_of_le (Q.gsl x hx) hg.size, fun x hx => ⟨(Q.sep x hx).1, (fun e => by
    rcases hat with h1 | h1
    · exact (Q.sep x hx).2.1 (e.trans h1)
    · have e2 := e.trans h1
      injection e2 with e2
      have := Q.gsl x hx
      omega), (Q.sep x hx).2.2⟩⟩, hk0⟩
  · simp [h1]
  · simp; omega
  · rw [take_flat3 h5] at ho
    exact ho
  · refine rRaw_ok.keep (S := h.qt w gs) ?_ hk
    rw [List.append_assoc] at hj ha
    have hti : (css.take i).length = i := by rw [List.length_take]; omega
    have htr : (raws.take i).length = i := by rw [List.length_take]; omega
    rcases Nat.lt_or_ge j i with hlt | hge
    · rw [List.getElem?_append_left (by omega), List.getElem?_take_of_lt hlt] at hj ha
      exact h4 j ds a hj ha
    · rw [List.getElem?_append_right (by omega), hti] at hj
      rw [List.getElem?_append_right (by omega), htr] at ha
      rcases Nat.eq_zero_or_pos (j - i) with h0 | h0
      · rw [h0] at hj ha
        simp at hj ha
        subst hj ha
        exact hx
      · obtain ⟨m, hm⟩ : ∃ m, j - i = m + 1 := ⟨j - i - 1, by omega⟩
        rw [hm] at hj ha
        simp only [List.singleton_append, List.getElem?_cons_succ, List.getElem?_drop] at hj ha
        exact h4 _ ds a hj ha
  · simp only [List.mem_append, List.mem_singleton] at hds
    rcases hds with (hds | rfl) | hds
    · exact h5 ds (List.mem_of_mem_take hds)
    · exact hcl
    · exact h5 ds (List.mem_of_mem_drop hds)
set_option maxRecDepth 100000 in
theorem and192_fin : ∀ V : Fin 256, V.val &&& 192 = V.val / 64 % 4 * 64 := by decide
set_option maxRecDepth 100000 in
theorem and32_fin : ∀ V : Fin 256, V.val &&& 32 = V.val / 32 % 2 * 32 := by decide
set_option maxRecDepth 100000 in
theorem and128_fin : ∀ V : Fin 256, V.val &&& 128 = V.val / 128 % 2 * 128 := by decide
set_option maxRecDepth 100000 in
theorem and64_fin : ∀ V : Fin 256, V.val &&& 64 = V.val / 64 % 2 * 64 := by decide
theorem andK {V : Int} (h0 : 0 ≤ V) (h : V ≤ 255) : bits .and .i64 V 192 = V / 64 % 4 * 64 ∧ bits .and .i64 V 32 = V / 32 % 2 * 32 ∧ bits .and .i64 V 128 = V / 128 % 2 * 128 ∧ bits .and .i64 V 64 = V / 64 % 2 * 64 := by
  obtain ⟨N, rfl⟩ := Int.eq_ofNat_of_zero_le h0
  have hN : N < 256 := by omega
  have a1 := i64_and_nat N 192 (by omega) (by omega)
  have a2 := i64_and_nat N 32 (by omega) (by omega)
  have a3 := i64_and_nat N 128 (by omega) (by omega)
  have a4 := i64_and_nat N 64 (by omega) (by omega)
  rw [and192_fin ⟨N, hN⟩, show ((192 : Nat) : Int) = 192 from rfl] at a1
  rw [and32_fin ⟨N, hN⟩, show ((32 : Nat) : Int) = 32 from rfl] at a2
  rw [and128_fin ⟨N, hN⟩, show ((128 : Nat) : Int) = 128 from rfl] at a3
  rw [and64_fin ⟨N, hN⟩, show ((64 : Nat) : Int) = 64 from rfl] at a4
  exact ⟨by rw [a1]; simp, by rw [a2]; simp, by rw [a3]; simp, by rw [a4]; simp⟩
theorem flt_store {w : World} {q : Nat} {a b c x y z : Value} (h : Blk w q 69 #[a, b, c]) : Blk (((w.setCell ⟨q, 0, none⟩ x).setCell ⟨q, 1, none⟩ y).setCell ⟨q, 2, none⟩ z) q 69 #[x, y, z] := by
  have hE := ((h.set_ 0 x).set_ 1 y).set_ 2 z
  simp only [List.setIfInBounds_toArray, List.set_cons_succ, List.set_cons_zero] at hE
  exact hE
theorem flt_below {a w : World} {B q : Nat} {x y z : Value} (h : Below B a w) (hq : B ≤ q) : Below B a (((w.setCell ⟨q, 0, none⟩ x).setCell ⟨q, 1, none⟩ y).setCell ⟨q, 2, none⟩ z) :=
  ((h.setCell (p := ⟨q, 0, none⟩) hq x).setCell (p := ⟨q, 1, none⟩) hq y).setCell (p := ⟨q, 2, none⟩) hq z
end Go.Proofs.YtlpkngjeihoknaaDoor
