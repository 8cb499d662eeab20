/- Joined texts: Plain law of layer 3 (paths): a right path that is put is read as it was, or its wide numbers as one number; Plain law of layer 4 (attributes): attributes that are put are read as they were, or with narrow numbers; Walks of layer 4 (attributes): the example. Conditions: those of the theorems. -/
import Derived.Test.YtlpkngjeihoknaaDoorProg
import Derived.WalkKit
import Derived.WalkSpells
import Derived.WalkLawsBesides
import Derived.Outline
import Derived.Deep.QuietTactic
import Derived.BigQuiet
import Derived.Handy
import Derived.Lib.Hide
import Derived.Test.YtlpkngjeihoknaaDoorAspT
import Derived.Test.YtlpkngjeihoknaaDoorAttK
import Derived.Test.YtlpkngjeihoknaaDoorAttGH
import Derived.Deep.DeepCutAuto
import Derived.Deep.CutBlock
import Derived.Test.YtlpkngjeihoknaaDoorAttDE
import Derived.Test.YtlpkngjeihoknaaDoorAttV
namespace Go.Proofs.YtlpkngjeihoknaaDoor
open Go.RowKit
set_option linter.unusedVariables false
set_option linter.unusedSimpArgs false
/-- All numbers of a path are such as fit. -/
def WF (l : List Seg) : Prop := ∀ x ∈ l, ∀ y ∈ x.2, 0 ≤ y ∧ y ≤ 4294967295
def okP (x : Seg) : Prop := (x.1 = 1 ∨ x.1 = 2) ∧ x.2 ≠ [] ∧ ∀ y ∈ x.2, 0 ≤ y ∧ y ≤ 4294967295
theorem okP_of {l : List Seg} (h : rightA l = true) (hw : WF l) : ∀ x ∈ l, okP x := by
  intro x hx
  have h1 := List.all_eq_true.1 (rightA_of h).1 x hx
  unfold okSeg at h1
  have h2 : (x.1 = 1 ∨ x.1 = 2) ∧ x.2.length ≠ 0 ∧ x.2.length ≤ 64 := of_decide_eq_true h1
  exact ⟨h2.1, fun e => h2.2.1 (by rw [e]; rfl), hw x hx⟩
/-- A number as it is read. -/
def nrw (wide : Bool) (y : Int) : Int := if wide = true then y else if 65535 < y then 23456 else y
def nseg (wide : Bool) (x : Seg) : Seg := (x.1, x.2.map (nrw wide))
theorem asB_sz (wide : Bool) (y : Int) : (asB wide y).length = szA wide := by
  unfold asB szA b32 b16
  cases wide
  · simp only [Bool.false_eq_true, if_false]
    split <;> rfl
  · rfl
theorem asB_num (wide : Bool) {y : Int} (h0 : 0 ≤ y) (h1 : y ≤ 4294967295) : (numL (asB wide y) : Int) = nrw wide y := by
  unfold asB nrw
  cases wide
  · simp only [Bool.false_eq_true, if_false]
    split
    · exact numL_b16 (by omega) (by omega)
    · exact numL_b16 h0 (by omega)
  · simp only [if_true]
    exact numL_b32 h0 (by omega)
theorem numsO_put (wide : Bool) : ∀ (zs : List Int) (t : List UInt8), (∀ y ∈ zs, 0 ≤ y ∧ y ≤ 4294967295) → numsO (szA wide) zs.length (zs.flatMap (asB wide) ++ t) = some (zs.map (nrw wide), t)
  | [], t, _ => rfl
  | y :: zs, t, h => by
    have hy := h y (by simp)
    rw [List.flatMap_cons, List.append_assoc, List.length_cons, numsO, if_neg (by rw [List.length_append, asB_sz]; omega), List.drop_left' (asB_sz wide y), List.take_left' (asB_sz wide y), numsO_put wide zs t (fun z hz => h z (by simp [hz])), asB_num wide hy.1 hy.2]
    rfl
theorem ub_len {k : Nat} (h : k ≤ 255) : (ub (IntKind.u8.wrap (k : Int))).toNat = k := by
  have e : IntKind.u8.wrap (k : Int) = k := by rw [IntKind.wrap_u8]; omega
  rw [e]
  have := ub_toNat (e := (k : Int)) (by omega) (by omega)
  omega
theorem oneO_put (wide : Bool) {x : Seg} (h : okP x) (hl : x.2.length ≤ 255) (t : List UInt8) : oneO (szA wide) (segB wide x ++ t) = some (nseg wide x, t) := by
  obtain ⟨k, zs⟩ := x
  obtain ⟨hk, _, hw⟩ := h
  simp only at hk hw hl
  unfold segB
  simp only [List.cons_append, List.nil_append, oneO]
  rw [ub_len hl, numsO_put wide zs t hw]
  have e : ((ub (IntKind.u8.wrap k)).toNat : Int) = k := by
    rcases hk with rfl | rfl <;> decide
  simp only [Option.map_some, nseg, e]
theorem segsO_put (wide : Bool) : ∀ (l : List Seg) (f : Nat), l.length ≤ f → (∀ x ∈ l, okP x ∧ x.2.length ≤ 255) → segsO (szA wide) f (putA wide l) = some (l.map (nseg wide))
  | [], f, _, _ => segsO_nil _ _
  | x :: l, 0, hf, _ => by simp at hf
  | x :: l, f + 1, hf, h => by
    have hx := h x (by simp)
    have e : putA wide (x :: l) = segB wide x ++ putA wide l := by simp [putA]
    have ho := oneO_put wide hx.1 hx.2 (putA wide l)
    have ih := segsO_put wide l f (by simp at hf; omega) (fun y hy => h y (by simp [hy]))
    rw [e]
    obtain ⟨b, bs, hb⟩ : ∃ b bs, segB wide x ++ putA wide l = b :: bs := ⟨_, _, rfl⟩
    rw [hb] at ho ⊢
    rw [segsO, ho]
    simp only
    rw [ih]
    rfl
theorem nseg_sum (wide : Bool) (l : List Seg) : sumN (l.map (nseg wide)) = sumN l := by
  induction l with
  | nil => rfl
  | cons x l ih => rw [List.map_cons, sumN, sumN, ih]; simp [nseg]
theorem nseg_count (wide : Bool) (l : List Seg) : countA (l.map (nseg wide)) = countA l := by
  induction l with
  | nil => rfl
  | cons x l ih => rw [List.map_cons, countA, countA, ih]; simp [nseg]
theorem nseg_ok (wide : Bool) (l : List Seg) : (l.map (nseg wide)).all okSeg = l.all okSeg := by
  induction l with
  | nil => rfl
  | cons x l ih => rw [List.map_cons, List.all_cons, List.all_cons, ih]; simp [nseg, okSeg]
theorem nseg_right (wide : Bool) (l : List Seg) : rightA (l.map (nseg wide)) = rightA l := by
  unfold rightA
  rw [nseg_ok, nseg_sum, List.length_map]
theorem nseg_wide (l : List Seg) : l.map (nseg true) = l := by
  have : ∀ x : Seg, nseg true x = x := by
    intro x
    unfold nseg
    rw [show nrw true = id from by funext y; rfl, List.map_id]
  rw [show nseg true = id from by funext x; exact this x, List.map_id]
/-- What is put is read. -/
theorem read_put {l : List Seg} (wide : Bool) (h : rightA l = true) (hw : WF l) : readA wide (putA wide l) = some (l.map (nseg wide)) := by
  have hr := rightA_of h
  have hok := okP_of h hw
  have hs : segsO (szA wide) 9 (putA wide l) = some (l.map (nseg wide)) := segsO_put wide l 9 (by omega) (fun x hx => ⟨hok x hx, by
    obtain ⟨i, hi⟩ := List.getElem?_of_mem hx
    have := sumN_at hi
    omega⟩)
  unfold readA
  rw [hs]
  simp only
  rw [nseg_right, h, if_pos rfl]
end Go.Proofs.YtlpkngjeihoknaaDoor
namespace Go.Proofs.YtlpkngjeihoknaaDoor
open Go.RowKit
set_option linter.unusedVariables false
set_option linter.unusedSimpArgs false
theorem hasN_false {l : List Int} {c : Int} (h : ∀ y ∈ l, y ≠ c) : hasN l c = false := decide_eq_false fun hm => h c hm rfl
theorem tk_cons (x : UInt8) (r : List UInt8) : numL (tkOut (x :: r) false (1 : Nat)) = x.toNat ∧ tkLeft (x :: r) false (1 : Nat) = r ∧ tkShort (x :: r) false (1 : Nat) = false := by
  obtain ⟨e1, e2, e3⟩ := tk_ok (l := x :: r) (k := 1) (by simp)
  rw [e1, e2, e3]
  exact ⟨by simp [numL], rfl, rfl⟩
theorem tk_app (a r : List UInt8) {k : Nat} (h : a.length = k) : tkOut (a ++ r) false k = a ∧ tkLeft (a ++ r) false k = r ∧ tkShort (a ++ r) false k = false := by
  obtain ⟨e1, e2, e3⟩ := tk_ok (l := a ++ r) (k := k) (by simp; omega)
  rw [e1, e2, e3]
  exact ⟨List.take_left' h, List.drop_left' h, rfl⟩
theorem splitA_is {b t1 t2 t3 t4 v : List UInt8} {s1 s2 s3 s4 : Bool} {V1 V2 V3 z : Nat} (E1 : numL (tkOut b false (1 : Nat)) = V1 ∧ tkLeft b false (1 : Nat) = t1 ∧ tkShort b false (1 : Nat) = s1) (E2 : numL (tkOut t1 s1 (1 : Nat)) = V2 ∧ tkLeft t1 s1 (1 : Nat) = t2 ∧ tkShort t1 s1 (1 : Nat) = s2) (hz : szV V1 = z) (E3 : numL (tkOut t2 s2 z) = V3 ∧ tkLeft t2 s2 z = t3 ∧ tkShort t2 s2 z = s3) (E4 : tkOut t3 s3 V3 = v ∧ tkLeft t3 s3 V3 = t4 ∧ tkShort t3 s3 V3 = s4) :
    splitA b = if s4 = true then none else some (⟨V1, V2, b.take (b.length - t4.length), v⟩, b.drop (b.length - t4.length)) := by
  obtain ⟨rfl, rfl, rfl⟩ := E1
  obtain ⟨rfl, rfl, rfl⟩ := E2
  subst hz
  obtain ⟨rfl, rfl, rfl⟩ := E3
  obtain ⟨rfl, rfl, rfl⟩ := E4
  rfl
/-- The flags as they stand. -/
def flW (fl : Int) (v : List UInt8) : Int := if 255 < v.length then fl + 16 else fl
abbrev Fl4 (fl : Int) : Prop := fl = 64 ∨ fl = 128 ∨ fl = 192 ∨ fl = 224
theorem split_put {fl kind : Int} {v : List UInt8} (hf : Fl4 fl) (hk0 : 0 ≤ kind) (hk1 : kind ≤ 255) (hv : v.length ≤ 60000) (t : List UInt8) :
    splitA (attrB fl kind v ++ t) = some (⟨flW fl v, kind, attrB fl kind v, v⟩, t) := by
  have hkn : ((ub kind).toNat : Int) = kind := ub_toNat hk0 hk1
  have key : ∀ (H : List UInt8), (attrB fl kind v = H ++ v) → splitA (attrB fl kind v ++ t) = some (⟨flW fl v, kind, (attrB fl kind v ++ t).take ((attrB fl kind v ++ t).length - t.length), v⟩, (attrB fl kind v ++ t).drop ((attrB fl kind v ++ t).length - t.length)) → splitA (attrB fl kind v ++ t) = some (⟨flW fl v, kind, attrB fl kind v, v⟩, t) := by
    intro H _ h
    rw [h, show (attrB fl kind v ++ t).length - t.length = (attrB fl kind v).length by simp, List.take_left' rfl, List.drop_left' rfl]
  by_cases hb : 255 < v.length
  · have e : attrB fl kind v = ([ub (fl + 16), ub kind] ++ b16 (v.length : Int)) ++ v := by unfold attrB; rw [if_pos hb]
    refine key _ e ?_
    have hV : ((ub (fl + 16)).toNat : Int) = fl + 16 := ub_toNat (by rcases hf with rfl | rfl | rfl | rfl <;> decide) (by rcases hf with rfl | rfl | rfl | rfl <;> decide)
    have hz : szV (ub (fl + 16)).toNat = 2 := by rcases hf with rfl | rfl | rfl | rfl <;> decide
    have hn : numL (b16 (v.length : Int)) = v.length := by have := numL_b16 (m := (v.length : Int)) (by omega) (by omega); omega
    have e2 : attrB fl kind v ++ t = ub (fl + 16) :: ub kind :: (b16 (v.length : Int) ++ (v ++ t)) := by rw [e]; simp
    have E3 := tk_app (b16 (v.length : Int)) (v ++ t) (k := 2) rfl
    have E4 := tk_app v t (k := v.length) rfl
    rw [e2]
    rw [splitA_is (tk_cons _ _) (tk_cons _ _) hz ⟨by rw [E3.1, hn], E3.2.1, E3.2.2⟩ E4, if_neg (by decide)]
    unfold flW
    rw [if_pos hb, hV, hkn]
  · have e : attrB fl kind v = [ub fl, ub kind, ub (v.length : Int)] ++ v := by unfold attrB; rw [if_neg hb]
    refine key _ e ?_
    have hV : ((ub fl).toNat : Int) = fl := ub_toNat (by rcases hf with rfl | rfl | rfl | rfl <;> decide) (by rcases hf with rfl | rfl | rfl | rfl <;> decide)
    have hz : szV (ub fl).toNat = 1 := by rcases hf with rfl | rfl | rfl | rfl <;> decide
    have hn : (ub (v.length : Int)).toNat = v.length := by have := ub_toNat (e := (v.length : Int)) (by omega) (by omega); omega
    have e2 : attrB fl kind v ++ t = ub fl :: ub kind :: ub (v.length : Int) :: (v ++ t) := by rw [e]; simp
    have E3 := tk_cons (ub (v.length : Int)) (v ++ t)
    have E4 := tk_app v t (k := v.length) rfl
    rw [e2]
    rw [splitA_is (tk_cons _ _) (tk_cons _ _) hz ⟨by rw [E3.1, hn], E3.2.1, E3.2.2⟩ E4, if_neg (by decide)]
    unfold flW
    rw [if_neg hb, hV, hkn]
/-- What a reading comes to, whatever the number of rounds. -/
def Lp (wide : Bool) (g : Gr) (b : List UInt8) (r : Except FtA Gr) : Prop := ∀ f, b.length ≤ f → loopA wide f g b = r
theorem Lp.nil (wide : Bool) (g : Gr) : Lp wide g [] (.ok g) := by
  intro f _
  cases f <;> rfl
theorem Lp.attr {wide : Bool} {g g' : Gr} {fl kind : Int} {v t : List UInt8} {r : Except FtA Gr} (hf : Fl4 fl) (hk0 : 0 ≤ kind) (hk1 : kind ≤ 255) (hv : v.length ≤ 60000)
    (hs : stepA wide g ⟨flW fl v, kind, attrB fl kind v, v⟩ = .ok g') (h : Lp wide g' t r) : Lp wide g (attrB fl kind v ++ t) r := by
  intro f hle
  have hsp := split_put hf hk0 hk1 hv t
  have hlen : 3 ≤ (attrB fl kind v).length := by unfold attrB b16; split <;> simp
  obtain ⟨c, cs, hc⟩ : ∃ c cs, attrB fl kind v ++ t = c :: cs := by
    cases hx : attrB fl kind v ++ t with
    | nil =>
      have h0 : (attrB fl kind v ++ t).length = 0 := by rw [hx]; rfl
      rw [List.length_append] at h0
      omega
    | cons c cs => exact ⟨c, cs, rfl⟩
  cases f with
  | zero => rw [List.length_append] at hle; omega
  | succ f =>
    rw [hc] at hsp ⊢
    rw [loopA, hsp]
    simp only
    rw [hs]
    simp only
    refine h f ?_
    rw [List.length_append] at hle
    omega
theorem Lp.only {wide : Bool} {g g' : Gr} {fl kind : Int} {v t : List UInt8} {r : Except FtA Gr} {c : Bool} (hf : Fl4 fl) (hk0 : 0 ≤ kind) (hk1 : kind ≤ 255) (hv : c = true → v.length ≤ 60000)
    (hs : c = true → stepA wide g ⟨flW fl v, kind, attrB fl kind v, v⟩ = .ok g') (hn : c = false → g' = g) (h : Lp wide g' t r) : Lp wide g (onlyIf c (attrB fl kind v) ++ t) r := by
  cases c with
  | true => exact Lp.attr hf hk0 hk1 (hv rfl) (hs rfl) h
  | false =>
    have e := hn rfl
    subst e
    exact h
theorem flW_form {fl kind : Int} {v : List UInt8} (hf : Fl4 fl) (hk : flagsA kind = fl) (all : List UInt8) (wide : Bool) (hb : badLen wide kind v.length = false) : formA wide ⟨flW fl v, kind, all, v⟩ = 0 := by
  have hp : ptF (flW fl v) = false ∨ flagsA kind = 192 := by
    rw [hk]
    unfold flW ptF
    rcases hf with rfl | rfl | rfl | rfl
    · left; split <;> decide
    · left; split <;> decide
    · right; rfl
    · exfalso
      have : flagsA kind = 0 ∨ flagsA kind = 64 ∨ flagsA kind = 128 ∨ flagsA kind = 192 := by
        unfold flagsA
        repeat' split
        all_goals simp
      omega
  have h1 : flW fl v / 64 % 4 * 64 = flagsA kind := by
    rw [hk]
    unfold flW
    rcases hf with rfl | rfl | rfl | rfl
    · split <;> decide
    · split <;> decide
    · split <;> decide
    · exfalso
      have : flagsA kind = 0 ∨ flagsA kind = 64 ∨ flagsA kind = 128 ∨ flagsA kind = 192 := by
        unfold flagsA
        repeat' split
        all_goals simp
      omega
  unfold formA
  simp only
  rw [if_neg, if_neg (by rw [hb]; decide)]
  rintro (h | ⟨h, h'⟩)
  · exact h h1
  · rcases hp with hp | hp
    · rw [hp] at h; cases h
    · exact h' hp
theorem step_known {wide : Bool} {g : Gr} {fl k : Int} {all v : List UInt8} (h1 : hasN g.kinds k = false) (h2 : knownA k = true) (h3 : formA wide ⟨fl, k, all, v⟩ = 0) : stepA wide g ⟨fl, k, all, v⟩ = knwA wide { g with kinds := g.kinds ++ [k] } ⟨fl, k, all, v⟩ := by
  unfold stepA
  rw [if_neg (by rw [h1]; decide), if_pos h2, if_neg (by rw [h3]; decide)]
theorem num_b32 {m : Int} (h0 : 0 ≤ m) (h1 : m < 4294967296) : numF 4 (b32 m) = m := by
  unfold numF
  have := tk_app (b32 m) [] (k := 4) rfl
  rw [List.append_nil] at this
  rw [this.1]
  exact numL_b32 h0 h1
theorem num_one {o : Int} (h0 : 0 ≤ o) (h1 : o ≤ 2) : numF 1 [ub o] = o := by
  unfold numF
  rw [(tk_cons (ub o) []).1]
  exact ub_toNat h0 (by omega)
theorem num_two {sz : Nat} {a : List UInt8} {y m : Int} (ha : a.length = sz) (hy : (numL a : Int) = y) (h0 : 0 ≤ m) (h1 : m < 4294967296) : numF sz (a ++ b32 m) = y ∧ numSec sz (a ++ b32 m) = m := by
  have e := tk_app a (b32 m) ha
  have e2 := tk_app (b32 m) [] (k := 4) rfl
  rw [List.append_nil] at e2
  unfold numF numSec
  rw [e.1, e.2.1, e.2.2, e2.1]
  exact ⟨hy, numL_b32 h0 h1⟩
/-- The numbers of attributes are such as fit. -/
def WFA (a : At) : Prop := (0 ≤ a.next ∧ a.next < 4294967296) ∧ (0 ≤ a.aggrAS ∧ a.aggrAS < 4294967296) ∧ (0 ≤ a.aggrAddr ∧ a.aggrAddr < 4294967296) ∧ WF a.path ∧ ∀ y ∈ a.comms, 0 ≤ y ∧ y ≤ 4294967295
def opt (c : Bool) (k : Int) : List Int := if c = true then [k] else []
theorem mem_opt {c : Bool} {k y : Int} (h : y ∈ opt c k) : y = k := by
  unfold opt at h
  split at h
  · simpa using h
  · cases h
theorem flat_b32 (l : List Int) : l.flatMap b32 = l.flatMap (asB true) := rfl
theorem comms_put {l : List Int} (h : ∀ y ∈ l, 0 ≤ y ∧ y ≤ 4294967295) : commsA (l.flatMap b32) = l := by
  have e := numsO_put true l [] h
  unfold commsA
  rw [b32_flat, show 4 * l.length / 4 = l.length by omega, flat_b32]
  rw [List.append_nil] at e
  rw [show (4 : Nat) = szA true from rfl, e]
  simp only
  rw [show nrw true = id from by funext y; rfl, List.map_id]
theorem raws_lt {l : List RawV} (h : rawsA l = true) : ∀ (j i : Nat) (x y : RawV), i < j → l[i]? = some x → l[j]? = some y → x.2.1 < y.2.1
  | 0, i, x, y, hlt, _, _ => by omega
  | j + 1, i, x, y, hlt, hi, hj => by
    have hb := rawsA_at h hj
    have hjl := (List.getElem?_eq_some_iff.1 hj).1
    have hz : l[j]? = some l[j] := List.getElem?_eq_getElem (by omega)
    unfold badRaw prevAt at hb
    rw [if_neg (by omega), show j + 1 - 1 = j by omega, hz] at hb
    simp only [Bool.or_eq_false_iff, decide_eq_false_iff_not] at hb
    have h1 : l[j].2.1 < y.2.1 := by have := hb.2; omega
    rcases Nat.lt_or_ge i j with hij | hij
    · have := raws_lt h j i x l[j] hij hi hz
      omega
    · have : i = j := by omega
      subst this
      rw [hz] at hi
      injection hi with hi
      rw [← hi]
      exact h1
theorem raw_of {l : List RawV} (h : rawsA l = true) {j : Nat} {y : RawV} (hj : l[j]? = some y) : (0 ≤ y.2.1 ∧ y.2.1 ≤ 255) ∧ knownA y.2.1 = false ∧ y.1 = 224 ∧ y.2.2.length ≤ 64 := by
  have hb := rawsA_at h hj
  unfold badRaw at hb
  simp only [Bool.or_eq_false_iff, decide_eq_false_iff_not, not_or] at hb
  obtain ⟨⟨b1, b2, b3, b4, b5⟩, _⟩ := hb
  refine ⟨⟨by omega, by omega⟩, by simpa using b3, by omega, by omega⟩
theorem Lp.raws {wide : Bool} {g : Gr} {l : List RawV} {t : List UInt8} {r : Except FtA Gr} (h : rawsA l = true) (h8 : l.length ≤ 8) (hr : g.a.raws = []) (hK : ∀ y ∈ g.kinds, knownA y = true)
    (hl : Lp wide { g with a := { g.a with raws := l }, kinds := g.kinds ++ l.map (·.2.1) } t r) : ∀ (m j : Nat), j + m = l.length → Lp wide { g with a := { g.a with raws := l.take j }, kinds := g.kinds ++ (l.take j).map (·.2.1) } ((l.drop j).flatMap (fun x => attrB x.1 x.2.1 x.2.2) ++ t) r
  | 0, j, hj => by
    rw [List.take_of_length_le (by omega), List.drop_eq_nil_of_le (by omega)]
    exact hl
  | m + 1, j, hj => by
    obtain ⟨x, hx⟩ : ∃ x, l[j]? = some x := ⟨_, List.getElem?_eq_getElem (by omega)⟩
    have hjl : j < l.length := by omega
    have hxe : l[j] = x := (List.getElem?_eq_some_iff.1 hx).2
    have e : l.drop j = x :: l.drop (j + 1) := by rw [List.drop_eq_getElem_cons hjl, hxe]
    obtain ⟨hk, hu, hf, hd⟩ := raw_of h hx
    have hall : ∀ (i : Nat) (y : RawV), (l.take j)[i]? = some y → y.2.1 < x.2.1 := by
      intro i y hy
      have hi := (List.getElem?_eq_some_iff.1 hy).1
      rw [List.length_take] at hi
      rw [List.getElem?_take_of_lt (by omega)] at hy
      exact raws_lt h j i y x (by omega) hy hx
    have hmem : ∀ y ∈ g.kinds ++ (l.take j).map (·.2.1), y ≠ x.2.1 := by
      intro y hy
      rcases List.mem_append.1 hy with hy | hy
      · intro e
        have := hK y hy
        rw [e, hu] at this
        cases this
      · obtain ⟨z, hz, rfl⟩ := List.mem_map.1 hy
        obtain ⟨i, hi⟩ := List.getElem?_of_mem hz
        have := hall i z hi
        omega
    have hpos : rawPos (l.take j) x.2.1 = (l.take j).length := by
      unfold rawPos
      refine List.findIdx_eq_length.2 fun y hy => ?_
      obtain ⟨i, hi⟩ := List.getElem?_of_mem hy
      have := hall i y hi
      exact decide_eq_false (by omega)
    have hins : ∀ fl all, insR (l.take j) ⟨fl, x.2.1, all, x.2.2⟩ = l.take (j + 1) := by
      intro fl all
      unfold insR
      simp only
      rw [hpos, List.take_of_length_le (Nat.le_refl _), List.drop_eq_nil_of_le (Nat.le_refl _), List.append_nil, take_snoc hx]
      obtain ⟨x1, x2, x3⟩ := x
      simp only at hf
      rw [hf]
    rw [e, List.flatMap_cons, List.append_assoc]
    refine Lp.attr (.inr (.inr (.inr hf))) hk.1 hk.2 (by omega) ?_ (Lp.raws h h8 hr hK hl m (j + 1) (by omega))
    have hfl : flW x.1 x.2.2 = 224 := by unfold flW; rw [if_neg (by omega), hf]
    unfold stepA
    simp only
    rw [if_neg (by rw [hasN_false hmem]; decide), if_neg (by rw [hu]; decide), hfl]
    unfold unkA
    simp only
    rw [if_neg (by decide), if_neg (by decide), if_neg (by rw [List.length_take]; omega), hins]
    rw [take_snoc hx, List.map_append]
    simp
theorem Lp.raws0 {wide : Bool} {g : Gr} {l : List RawV} {t : List UInt8} {r : Except FtA Gr} (h : rawsA l = true) (h8 : l.length ≤ 8) (hr : g.a.raws = []) (hK : ∀ y ∈ g.kinds, knownA y = true)
    (hl : Lp wide { g with a := { g.a with raws := l }, kinds := g.kinds ++ l.map (·.2.1) } t r) : Lp wide g (l.flatMap (fun x => attrB x.1 x.2.1 x.2.2) ++ t) r := by
  have := Lp.raws h h8 hr hK hl l.length 0 (by omega)
  simp only [List.take_zero, List.map_nil, List.append_nil, List.drop_zero] at this
  obtain ⟨⟨a1, a2, a3, a4, a5, a6, a7, a8, a9, a10, a11⟩, b1, b2, b3, b4, b5⟩ := g
  simp only at hr
  subst hr
  exact this
theorem kn_le {k : Int} (h : k = 1 ∨ k = 2 ∨ k = 3 ∨ k = 4 ∨ k = 5 ∨ k = 6 ∨ k = 7 ∨ k = 8 ∨ k = 17 ∨ k = 18) : knownA k = true := by
  rcases h with rfl | rfl | rfl | rfl | rfl | rfl | rfl | rfl | rfl | rfl <;> decide
/-- The kinds that stand ahead of the raws. -/
def kndA (a : At) : List Int := [1, 2, 3] ++ opt (decide (0 ≤ a.med)) 4 ++ opt (decide (0 ≤ a.pref)) 5 ++ opt a.atomic 6 ++ opt a.hasAggr 7 ++ opt (decide (0 < a.comms.length)) 8
def M17 (wide : Bool) (a : At) : Bool := !wide && bigN (flatA a.path)
def M18 (wide : Bool) (a : At) : Bool := !wide && decide (65535 < a.aggrAS)
/-- What a reading holds behind all attributes. -/
def grPut (wide : Bool) (a : At) : Gr :=
  ⟨⟨a.origin, a.path.map (nseg wide), a.next, a.med, a.pref, a.atomic, a.hasAggr, nrw wide a.aggrAS, a.aggrAddr, a.comms, a.raws⟩,
    kndA a ++ a.raws.map (·.2.1) ++ opt (M17 wide a) 17 ++ opt (M18 wide a) 18,
    if M17 wide a = true then a.path else [], a.hasAggr, nrw wide a.aggrAS, if M18 wide a = true then b32 a.aggrAS ++ b32 a.aggrAddr else []⟩
theorem nrw_zero (wide : Bool) : nrw wide 0 = 0 := by cases wide <;> rfl
theorem loop_put {a : At} (wide : Bool) (h : rightAt a = true) (hn : nextA a.next = true) (hw : WFA a) : Lp wide zeroGr (attsB wide a) (.ok (grPut wide a)) := by
  obtain ⟨hor, hpa, hme, hpr, hag, hco, hra, hrl⟩ := rightAt_of h
  obtain ⟨hwn, hwg, hwa, hwp, hwc⟩ := hw
  have hpl := putA_len wide a.path
  have hpl2 := putA_len true a.path
  have hps := rightA_of hpa
  have hme' : -1 ≤ a.med ∧ a.med ≤ 4294967295 := of_decide_eq_true hme
  have hpr' : -1 ≤ a.pref ∧ a.pref ≤ 4294967295 := of_decide_eq_true hpr
  have E : attsB wide a = attrB 64 1 [ub a.origin] ++ (attrB 64 2 (putA wide a.path) ++ (attrB 64 3 (b32 a.next) ++ (onlyIf (decide (0 ≤ a.med)) (attrB 128 4 (b32 (a.med % 4294967296))) ++ (onlyIf (decide (0 ≤ a.pref)) (attrB 64 5 (b32 (a.pref % 4294967296))) ++ (onlyIf a.atomic (attrB 64 6 []) ++ (onlyIf a.hasAggr (attrB 192 7 (asB wide a.aggrAS ++ b32 a.aggrAddr)) ++ (onlyIf (decide (0 < a.comms.length)) (attrB 192 8 (a.comms.flatMap b32)) ++ (a.raws.flatMap (fun x => attrB x.1 x.2.1 x.2.2) ++ (onlyIf (M17 wide a) (attrB 192 17 (putA true a.path)) ++ (onlyIf (M18 wide a) (attrB 192 18 (b32 a.aggrAS ++ b32 a.aggrAddr)) ++ [])))))))))) := by
    unfold attsB M17 M18
    simp only [List.append_assoc, List.append_nil]
  rw [E]
  -- 1
  refine Lp.attr (g' := ⟨⟨a.origin, [], 0, -1, -1, false, false, 0, 0, [], []⟩, [1], [], false, 0, []⟩) (.inl rfl) (by decide) (by decide) (by simp) ?_ ?_
  · rw [step_known (show hasN [] 1 = false by decide) (by decide) (flW_form (.inl rfl) (by decide) _ _ (by simp [badLen, lookAt, lookTbl]))]
    unfold knwA
    simp only
    rw [if_pos (by first | trivial | rfl), num_one hor.1 hor.2, if_neg (by omega)]
    rfl
  -- 2
  refine Lp.attr (g' := ⟨⟨a.origin, a.path.map (nseg wide), 0, -1, -1, false, false, 0, 0, [], []⟩, [1, 2], [], false, 0, []⟩) (.inl rfl) (by decide) (by decide) (by omega) ?_ ?_
  · rw [step_known (show hasN [1] 2 = false by decide) (by decide) (flW_form (.inl rfl) (by decide) _ _ (by simp [badLen, lookAt, lookTbl]; omega))]
    unfold knwA
    simp only
    rw [if_neg (by decide), if_pos (by first | trivial | rfl), read_put wide hpa hwp]
    rfl
  -- 3
  refine Lp.attr (g' := ⟨⟨a.origin, a.path.map (nseg wide), a.next, -1, -1, false, false, 0, 0, [], []⟩, [1, 2, 3], [], false, 0, []⟩) (.inl rfl) (by decide) (by decide) (by simp [b32]) ?_ ?_
  · rw [step_known (show hasN [1, 2] 3 = false by decide) (by decide) (flW_form (.inl rfl) (by decide) _ _ (by simp [badLen, lookAt, lookTbl, b32]))]
    unfold knwA
    simp only
    rw [if_neg (by decide), if_neg (by decide), if_pos (by first | trivial | rfl), num_b32 hwn.1 hwn.2, hn, if_pos rfl]
    rfl
  -- 4
  refine Lp.only (g' := ⟨⟨a.origin, a.path.map (nseg wide), a.next, a.med, -1, false, false, 0, 0, [], []⟩, [1, 2, 3] ++ opt (decide (0 ≤ a.med)) 4, [], false, 0, []⟩) (.inr (.inl rfl)) (by decide) (by decide) (fun _ => by simp [b32]) (fun hc => ?_) (fun hc => ?_) ?_
  · rw [step_known (show hasN [1, 2, 3] 4 = false by decide) (by decide) (flW_form (.inr (.inl rfl)) (by decide) _ _ (by simp [badLen, lookAt, lookTbl, b32]))]
    have h0 : 0 ≤ a.med := of_decide_eq_true hc
    unfold knwA
    simp only
    rw [if_neg (by decide), if_neg (by decide), if_neg (by decide), if_pos (by first | trivial | rfl), num_b32 (by omega) (by omega), hc]
    simp only [opt, if_pos]
    rw [show a.med % 4294967296 = a.med by omega]
  · have h0 : ¬ 0 ≤ a.med := of_decide_eq_false hc
    rw [hc, show a.med = -1 by omega]
    simp [opt]
  -- 5
  refine Lp.only (g' := ⟨⟨a.origin, a.path.map (nseg wide), a.next, a.med, a.pref, false, false, 0, 0, [], []⟩, [1, 2, 3] ++ opt (decide (0 ≤ a.med)) 4 ++ opt (decide (0 ≤ a.pref)) 5, [], false, 0, []⟩) (.inl rfl) (by decide) (by decide) (fun _ => by simp [b32]) (fun hc => ?_) (fun hc => ?_) ?_
  · rw [step_known (hasN_false (by
      intro y hy
      simp only [List.mem_append] at hy
      rcases hy with hy | hy
      · simp at hy; omega
      · have := mem_opt hy; omega)) (by decide) (flW_form (.inl rfl) (by decide) _ _ (by simp [badLen, lookAt, lookTbl, b32]))]
    have h0 : 0 ≤ a.pref := of_decide_eq_true hc
    unfold knwA
    simp only
    rw [if_neg (by decide), if_neg (by decide), if_neg (by decide), if_neg (by decide), if_pos (by first | trivial | rfl), num_b32 (by omega) (by omega), hc]
    simp only [opt, if_pos]
    rw [show a.pref % 4294967296 = a.pref by omega]
  · have h0 : ¬ 0 ≤ a.pref := of_decide_eq_false hc
    rw [hc, show a.pref = -1 by omega]
    simp [opt]
  -- 6
  refine Lp.only (g' := ⟨⟨a.origin, a.path.map (nseg wide), a.next, a.med, a.pref, a.atomic, false, 0, 0, [], []⟩, [1, 2, 3] ++ opt (decide (0 ≤ a.med)) 4 ++ opt (decide (0 ≤ a.pref)) 5 ++ opt a.atomic 6, [], false, 0, []⟩) (.inl rfl) (by decide) (by decide) (fun _ => by simp) (fun hc => ?_) (fun hc => ?_) ?_
  · rw [step_known (hasN_false (by
      intro y hy
      simp only [List.mem_append] at hy
      rcases hy with (hy | hy) | hy
      · simp at hy; omega
      · have := mem_opt hy; omega
      · have := mem_opt hy; omega)) (by decide) (flW_form (.inl rfl) (by decide) _ _ (by simp [badLen, lookAt, lookTbl]))]
    unfold knwA
    simp only
    rw [if_neg (by decide), if_neg (by decide), if_neg (by decide), if_neg (by decide), if_neg (by decide), if_pos (by first | trivial | rfl), hc]
    simp only [opt, if_pos]
  · rw [hc]
    simp [opt]
  -- 7
  refine Lp.only (g' := ⟨⟨a.origin, a.path.map (nseg wide), a.next, a.med, a.pref, a.atomic, a.hasAggr, nrw wide a.aggrAS, a.aggrAddr, [], []⟩, [1, 2, 3] ++ opt (decide (0 ≤ a.med)) 4 ++ opt (decide (0 ≤ a.pref)) 5 ++ opt a.atomic 6 ++ opt a.hasAggr 7, [], a.hasAggr, nrw wide a.aggrAS, []⟩) (.inr (.inr (.inl rfl))) (by decide) (by decide) (fun _ => by rw [List.length_append, asB_sz, b32_len]; cases wide <;> decide) (fun hc => ?_) (fun hc => ?_) ?_
  · have hlen : (asB wide a.aggrAS ++ b32 a.aggrAddr).length = szA wide + 4 := by rw [List.length_append, asB_sz, b32_len]
    rw [step_known (hasN_false (by
      intro y hy
      simp only [List.mem_append] at hy
      rcases hy with ((hy | hy) | hy) | hy
      · simp at hy; omega
      · have := mem_opt hy; omega
      · have := mem_opt hy; omega
      · have := mem_opt hy; omega)) (by decide) (flW_form (.inr (.inr (.inl rfl))) (by decide) _ _ (by rw [hlen]; cases wide <;> decide))]
    obtain ⟨e1, e2⟩ := num_two (asB_sz wide a.aggrAS) (asB_num wide (y := a.aggrAS) (by omega) (by omega)) hwa.1 hwa.2
    unfold knwA
    simp only
    rw [if_neg (by decide), if_neg (by decide), if_neg (by decide), if_neg (by decide), if_neg (by decide), if_neg (by decide), if_pos (by first | trivial | rfl), e1, e2, hc]
    simp only [opt, if_pos]
  · rcases hag with hag | ⟨g1, g2⟩
    · rw [hag] at hc; cases hc
    · rw [hc, g1, g2, nrw_zero]
      simp [opt]
  -- 8
  refine Lp.only (g' := ⟨⟨a.origin, a.path.map (nseg wide), a.next, a.med, a.pref, a.atomic, a.hasAggr, nrw wide a.aggrAS, a.aggrAddr, a.comms, []⟩, kndA a, [], a.hasAggr, nrw wide a.aggrAS, []⟩) (.inr (.inr (.inl rfl))) (by decide) (by decide) (fun _ => by rw [b32_flat]; omega) (fun hc => ?_) (fun hc => ?_) ?_
  · rw [step_known (hasN_false (by
      intro y hy
      simp only [List.mem_append] at hy
      rcases hy with (((hy | hy) | hy) | hy) | hy
      · simp at hy; omega
      · have := mem_opt hy; omega
      · have := mem_opt hy; omega
      · have := mem_opt hy; omega
      · have := mem_opt hy; omega)) (by decide) (flW_form (.inr (.inr (.inl rfl))) (by decide) _ _ (by unfold badLen; rw [if_neg (by decide), if_pos rfl, b32_flat]; exact decide_eq_false (by omega)))]
    unfold knwA
    simp only
    rw [if_neg (by decide), if_neg (by decide), if_neg (by decide), if_neg (by decide), if_neg (by decide), if_neg (by decide), if_neg (by decide), if_pos (by first | trivial | rfl), if_neg (by rw [b32_flat]; omega), comms_put hwc]
    unfold kndA
    rw [hc]
    simp only [opt, if_pos, List.nil_append]
  · have h0 : ¬ 0 < a.comms.length := of_decide_eq_false hc
    have h1 : a.comms = [] := List.eq_nil_of_length_eq_zero (by omega)
    unfold kndA
    rw [h1]
    simp [opt]
  -- raws
  have hK : ∀ y ∈ kndA a, knownA y = true ∧ y ≤ 8 := by
    intro y hy
    unfold kndA at hy
    simp only [List.mem_append] at hy
    have : y = 1 ∨ y = 2 ∨ y = 3 ∨ y = 4 ∨ y = 5 ∨ y = 6 ∨ y = 7 ∨ y = 8 := by
      rcases hy with ((((hy | hy) | hy) | hy) | hy) | hy
      · simp at hy; omega
      · have := mem_opt hy; omega
      · have := mem_opt hy; omega
      · have := mem_opt hy; omega
      · have := mem_opt hy; omega
      · have := mem_opt hy; omega
    exact ⟨kn_le (by omega), by omega⟩
  refine Lp.raws0 (g := ⟨⟨a.origin, a.path.map (nseg wide), a.next, a.med, a.pref, a.atomic, a.hasAggr, nrw wide a.aggrAS, a.aggrAddr, a.comms, []⟩, kndA a, [], a.hasAggr, nrw wide a.aggrAS, []⟩) hra hrl rfl (fun y hy => (hK y hy).1) ?_
  simp only
  have hR : ∀ y ∈ a.raws.map (·.2.1), knownA y = false := by
    intro y hy
    obtain ⟨z, hz, rfl⟩ := List.mem_map.1 hy
    obtain ⟨i, hi⟩ := List.getElem?_of_mem hz
    exact (raw_of hra hi).2.1
  -- 17
  refine Lp.only (g' := ⟨⟨a.origin, a.path.map (nseg wide), a.next, a.med, a.pref, a.atomic, a.hasAggr, nrw wide a.aggrAS, a.aggrAddr, a.comms, a.raws⟩, kndA a ++ a.raws.map (·.2.1) ++ opt (M17 wide a) 17, if M17 wide a = true then a.path else [], a.hasAggr, nrw wide a.aggrAS, []⟩) (.inr (.inr (.inl rfl))) (by decide) (by decide) (fun _ => by omega) (fun hc => ?_) (fun hc => ?_) ?_
  · rw [step_known (hasN_false (by
      intro y hy
      rcases List.mem_append.1 hy with hy | hy
      · have := (hK y hy).2; omega
      · intro e
        have := hR y hy
        rw [e] at this
        exact absurd this (by decide))) (by decide) (flW_form (.inr (.inr (.inl rfl))) (by decide) _ _ (by simp [badLen, lookAt, lookTbl]; omega))]
    unfold knwA
    simp only
    rw [if_neg (by decide), if_neg (by decide), if_neg (by decide), if_neg (by decide), if_neg (by decide), if_neg (by decide), if_neg (by decide), if_neg (by decide), if_pos (by first | trivial | rfl), read_put true hpa hwp, nseg_wide, hc]
    simp only [opt, if_pos, Option.getD_some]
  · rw [hc]
    simp [opt]
  -- 18
  refine Lp.only (g' := grPut wide a) (.inr (.inr (.inl rfl))) (by decide) (by decide) (fun _ => by simp [b32]) (fun hc => ?_) (fun hc => ?_) (Lp.nil _ _)
  · rw [step_known (hasN_false (by
      intro y hy
      rcases List.mem_append.1 hy with hy | hy
      · rcases List.mem_append.1 hy with hy | hy
        · have := (hK y hy).2; omega
        · intro e
          have := hR y hy
          rw [e] at this
          exact absurd this (by decide)
      · have := mem_opt hy; omega)) (by decide) (flW_form (.inr (.inr (.inl rfl))) (by decide) _ _ (by simp [badLen, lookAt, lookTbl, b32]))]
    unfold knwA
    simp only
    rw [if_neg (by decide), if_neg (by decide), if_neg (by decide), if_neg (by decide), if_neg (by decide), if_neg (by decide), if_neg (by decide), if_neg (by decide), if_neg (by decide), if_pos (by first | trivial | rfl), if_pos (by simp [b32])]
    unfold grPut
    rw [hc]
    simp only [opt, if_pos]
  · unfold grPut
    rw [hc]
    simp [opt]
theorem readAt_put {a : At} (wide : Bool) (h : rightAt a = true) (hn : nextA a.next = true) (hw : WFA a) : readAt (attsB wide a) wide = .ok (endA wide (grPut wide a), (grPut wide a).kinds) := by
  unfold readAt
  rw [loop_put wide h hn hw _ (Nat.le_refl _)]
/-- Put wide, attributes are read as they were. -/
theorem read_wide {a : At} (h : rightAt a = true) (hn : nextA a.next = true) (hw : WFA a) : readAt (attsB true a) true = .ok (a, (grPut true a).kinds) := by
  rw [readAt_put true h hn hw]
  unfold endA
  rw [if_pos (.inl rfl)]
  unfold grPut
  simp only
  rw [nseg_wide]
  rfl
theorem nseg_small {l : List Seg} (h : bigN (flatA l) = false) : l.map (nseg false) = l := by
  have hy : ∀ x ∈ l, ∀ y ∈ x.2, ¬ 65535 < y := by
    intro x hx y hy
    have := List.any_eq_false.1 h y (List.mem_flatMap.2 ⟨x, hx, hy⟩)
    simpa using this
  have : ∀ x ∈ l, nseg false x = x := by
    intro x hx
    have e : x.2.map (nrw false) = x.2 := by
      have : x.2.map (nrw false) = x.2.map id := List.map_congr_left fun y hy' => by
        unfold nrw
        rw [if_neg (by decide), if_neg (hy x hx y hy')]
        rfl
      rw [this, List.map_id]
    unfold nseg
    rw [e]
  rw [List.map_congr_left this, List.map_id']
theorem kinds_path (wide : Bool) (a : At) : hasN (grPut wide a).kinds 2 = true := by
  unfold grPut kndA hasN
  simp
theorem merge_same {a : At} (h : rightA a.path = true) : mergeA (a.path.map (nseg false)) a.path = if a.path = [] then a.path.map (nseg false) else a.path := by
  by_cases h0 : a.path = []
  · rw [if_pos h0, mergeA_no (.inl h0)]
  · rw [if_neg h0, mergeA_yes, nseg_count, Nat.sub_self, headA_zero, List.nil_append, if_pos h]
    rintro (h1 | h1 | h1 | h1)
    · exact h0 h1
    · rw [nseg_right, h] at h1; cases h1
    · rw [h] at h1; cases h1
    · rw [nseg_count] at h1; omega
/-- Put narrow. -/
theorem read_narrow {a : At} (h : rightAt a = true) (hn : nextA a.next = true) (hw : WFA a) : ∃ x k, readAt (attsB false a) false = .ok (x, k) ∧ countA x.path = countA a.path ∧ (rightA x.path = true) ∧ (x.comms = a.comms ∧ x.raws = a.raws) ∧ ((bigN (flatA a.path) = false ∧ a.aggrAS ≤ 65535 ∧ a.aggrAS ≠ 23456) → x = a) ∧ (a.hasAggr = false → bigN (flatA a.path) = true → x = a) := by
  obtain ⟨hor, hpa, hme, hpr, hag, hco, hra, hrl⟩ := rightAt_of h
  refine ⟨_, _, readAt_put false h hn hw, ?_⟩
  have hM : M17 false a = bigN (flatA a.path) := rfl
  have hcon : countA (a.path.map (nseg false)) = countA a.path := nseg_count _ _
  have hri : rightA (a.path.map (nseg false)) = true := by rw [nseg_right, hpa]
  have hmg : mergeA (grPut false a).a.path (grPut false a).more = if bigN (flatA a.path) = true then a.path else a.path.map (nseg false) := by
    unfold grPut
    simp only
    rw [hM]
    cases hb : bigN (flatA a.path)
    · simp only [Bool.false_eq_true, if_false]
      exact mergeA_no (.inl rfl)
    · simp only [if_true]
      rw [merge_same hpa, if_neg]
      intro h0
      rw [h0] at hb
      cases hb
  unfold endA
  by_cases hold : (grPut false a).hasOld = true ∧ (grPut false a).oldAS ≠ 23456
  · rw [if_pos (.inr hold)]
    refine ⟨hcon, hri, ⟨rfl, rfl⟩, fun hc => ?_, fun h1 h2 => ?_⟩
    · unfold grPut
      simp only
      rw [nseg_small hc.1]
      have : nrw false a.aggrAS = a.aggrAS := by unfold nrw; rw [if_neg (by decide), if_neg (by omega)]
      rw [this]
    · exact absurd hold.1 (by show ¬ a.hasAggr = true; rw [h1]; decide)
  · rw [if_neg (fun h => h.elim (fun h => by cases h) hold)]
    simp only
    rw [kinds_path, if_pos rfl, hmg]
    have hpath : ∀ P : List Seg, P = (if bigN (flatA a.path) = true then a.path else a.path.map (nseg false)) → countA P = countA a.path ∧ rightA P = true := by
      rintro P rfl
      split
      · exact ⟨rfl, hpa⟩
      · exact ⟨hcon, hri⟩
    refine ⟨?_, ?_, ?_, fun hc => ?_, fun h1 h2 => ?_⟩
    · split <;> exact (hpath _ rfl).1
    · split <;> exact (hpath _ rfl).2
    · split <;> exact ⟨rfl, rfl⟩
    · have e : nrw false a.aggrAS = a.aggrAS := by unfold nrw; rw [if_neg (by decide), if_neg (by omega)]
      have ho : ¬ (grPut false a).hasOld = true := fun ho => hold ⟨ho, by show nrw false a.aggrAS ≠ 23456; rw [e]; exact hc.2.2⟩
      rw [if_neg (fun hx => ho hx.1), hc.1]
      unfold grPut
      simp only [Bool.false_eq_true, if_false]
      rw [nseg_small hc.1, e]
    · have h0 : ¬ ((grPut false a).hasOld = true ∧ 0 < (grPut false a).newAS.length) := by
        rintro ⟨h3, _⟩
        rw [show (grPut false a).hasOld = a.hasAggr from rfl, h1] at h3
        cases h3
      rw [if_neg h0, h2]
      unfold grPut
      simp only [if_true]
      rcases hag with hag | ⟨g1, g2⟩
      · rw [h1] at hag; cases hag
      · have e : nrw false a.aggrAS = a.aggrAS := by rw [g1]; rfl
        rw [e]
end Go.Proofs.YtlpkngjeihoknaaDoor
namespace Go.Proofs.YtlpkngjeihoknaaDoor
open Go.RowKit
set_option linter.unusedSimpArgs false
set_option linter.unusedVariables false
theorem DL.segB4 {w w' : World} {A : Option Addr} {n : Nat} {l : List Seg} (h : DL rSeg 2 w (Lo w) A n l) (hb : Below w.heap.size w w') : DL rSeg 2 w' (Lo w') A n l := h.keep rSeg_ok (Kp.call hb)
theorem DL.rawB4 {w w' : World} {A : Option Addr} {n : Nat} {l : List RawV} (h : DL rRaw 3 w (Lo w) A n l) (hb : Below w.heap.size w w') : DL rRaw 3 w' (Lo w') A n l := h.keep rRaw_ok (Kp.call hb)
theorem NF.numB4 {w w' : World} {A : Option Addr} {n : Nat} {l : List Int} (h : NF w (Lo w) A n l) (hb : Below w.heap.size w w') : NF w' (Lo w') A n l := h.keep (Kp.call hb)
theorem onlyIf_len (b : Bool) (l : List UInt8) : (onlyIf b l).length ≤ l.length := by unfold onlyIf; split <;> simp
theorem raws_len : ∀ (l : List RawV), (∀ x ∈ l, x.2.2.length ≤ 64) → (l.flatMap (fun x => attrB x.1 x.2.1 x.2.2)).length ≤ 68 * l.length
  | [], _ => by simp
  | x :: l, h => by
    have h1 := attrB_len x.1 x.2.1 x.2.2
    have h2 := h x (by simp)
    have h3 := raws_len l (fun y hy => h y (by simp [hy]))
    rw [List.flatMap_cons, List.length_append, List.length_cons]
    omega
theorem attsB_len {a : At} (wide : Bool) (h : rightAt a = true) : (attsB wide a).length ≤ 5000 := by
  obtain ⟨hor, hpa, hme, hpr, hag, hco, hra, hrl⟩ := rightAt_of h
  have hps := rightA_of hpa
  have p1 := putA_len wide a.path
  have p2 := putA_len true a.path
  have a1 := attrB_len 64 1 [ub a.origin]
  have a2 := attrB_len 64 2 (putA wide a.path)
  have a3 := attrB_len 64 3 (b32 a.next)
  have a4 := Nat.le_trans (onlyIf_len (decide (0 ≤ a.med)) _) (attrB_len 128 4 (b32 (a.med % 4294967296)))
  have a5 := Nat.le_trans (onlyIf_len (decide (0 ≤ a.pref)) _) (attrB_len 64 5 (b32 (a.pref % 4294967296)))
  have a6 := Nat.le_trans (onlyIf_len a.atomic _) (attrB_len 64 6 [])
  have a7 := Nat.le_trans (onlyIf_len a.hasAggr _) (attrB_len 192 7 (asB wide a.aggrAS ++ b32 a.aggrAddr))
  have a8 := Nat.le_trans (onlyIf_len (decide (0 < a.comms.length)) _) (attrB_len 192 8 (a.comms.flatMap b32))
  have a9 := raws_len a.raws (fun x hx => by
    obtain ⟨i, hi⟩ := List.getElem?_of_mem hx
    exact (raw_of hra hi).2.2.2)
  have a10 := Nat.le_trans (onlyIf_len (!wide && bigN (flatA a.path)) _) (attrB_len 192 17 (putA true a.path))
  have a11 := Nat.le_trans (onlyIf_len (!wide && decide (65535 < a.aggrAS)) _) (attrB_len 192 18 (b32 a.aggrAS ++ b32 a.aggrAddr))
  have l7 := asB_len wide a.aggrAS
  rw [b32_flat] at a8
  rw [List.length_append, b32_len] at a7
  rw [List.length_append, b32_len, b32_len] at a11
  rw [b32_len] at a3 a4 a5
  simp only [List.length_cons, List.length_nil] at a1 a6
  unfold attsB
  simp only [List.length_append]
  omega
theorem DL.wfA {w : World} {S : Nat → Prop} {A : Option Addr} {n : Nat} {l : List Seg} (h : DL rSeg 2 w S A n l) : WF l := by
  intro x hx y hy
  obtain ⟨i, hi⟩ := List.getElem?_of_mem hx
  obtain ⟨b, off, A', n', c', _, _, _, _, hnf, _⟩ := h.segAt hi
  obtain ⟨j, hj⟩ := List.getElem?_of_mem hy
  exact hnf.wf_ hj
theorem NF.wfB {w : World} {S : Nat → Prop} {A : Option Addr} {n : Nat} {l : List Int} (h : NF w S A n l) : ∀ y ∈ l, 0 ≤ y ∧ y ≤ 4294967295 := by
  intro y hy
  obtain ⟨j, hj⟩ := List.getElem?_of_mem hy
  exact h.wf_ hj
def exAt : At := ⟨0, [], 167772161, -1, -1, false, false, 0, 0, [], []⟩
def exB04 : List UInt8 := attsB true exAt
theorem exRight04 : rightAt exAt = true := by decide +kernel
theorem exPut04 : putAt true exAt = (exB04, 0) := if_pos exRight04
theorem exLen04 : exB04.length = 14 := by decide +kernel
theorem exWF04 : WFA exAt := ⟨by decide, by decide, by decide, (fun x h => by cases h), fun x h => by cases h⟩
theorem exKinds04 : (grPut true exAt).kinds = [1, 2, 3] := by decide +kernel
theorem exRead04 : readAt exB04 true = .ok (exAt, [1, 2, 3]) := by
  have := read_wide exRight04 (by decide) exWF04
  rw [exKinds04] at this
  exact this
set_option maxHeartbeats 8000000 in
set_option maxRecDepth 100000 in
theorem awake04 (w : World) (ht : LookTab w) (hgo : 0 < w.heap.size) : Calls Tryd.prog 47 #[] w fun en w' => en = .returned (.bool true) ∧ Below w.heap.size w w' := by
  have HPU := Lib.hid (show ∀ w', LookTab w' → 0 < w'.heap.size → Calls Tryd.prog 58 #[.agg #[.int .i64 0, .slice none 0 0, .int .u32 167772161, .int .i64 (-1), .int .i64 (-1), .bool false, .bool false, .int .u32 0, .int .u32 0, .slice none 0 0, .slice none 0 0], .bool true] w' (RetPE w' (exB04, 0)) from fun w' h1 h2 => by
    rw [← exPut04]
    exact attPut_wide 0 none 0 0 [] 167772161 (-1) (-1) false false 0 0 none 0 0 [] none 0 0 [] w' DL.none_ NF.none_ DL.none_ (by omega) (Lib.hid (by decide)) (by omega) h1 h2 (Lib.hid (by decide)))
  have HRD := Lib.hid (show ∀ (A : Option Addr) (c : Nat) w', LookTab w' → BS w' w'.heap.size A 14 exB04 → Calls Tryd.prog 60 #[.slice A 14 c, .bool true] w' (RetRA w' (.ok (exAt, [1, 2, 3]))) from fun A c w' h1 h2 => by
    rw [← exRead04]
    exact attRead A 14 c exB04 true w' h2 (by omega) h1)
  have HSM := Lib.hid (show ∀ (A : Option Addr) (n c : Nat) (A1 : Option Addr) (n1 c1 : Nat) (A2 : Option Addr) (n2 c2 : Nat) w', DL rSeg 2 w' (Lo w') A n [] → NF w' (Lo w') A1 n1 [] → DL rRaw 3 w' (Lo w') A2 n2 [] → Calls Tryd.prog 57 #[.agg #[.int .i64 0, .slice A n c, .int .u32 167772161, .int .i64 (-1), .int .i64 (-1), .bool false, .bool false, .int .u32 0, .int .u32 0, .slice A1 n1 c1, .slice A2 n2 c2], .agg #[.int .i64 0, .slice none 0 0, .int .u32 167772161, .int .i64 (-1), .int .i64 (-1), .bool false, .bool false, .int .u32 0, .int .u32 0, .slice none 0 0, .slice none 0 0]] w' fun en w'' => en = .returned (.bool true) ∧ Below w'.heap.size w' w'' from fun A n c A1 n1 c1 A2 n2 c2 w' h1 h2 h3 => by
    have e : sameAt exAt exAt = true := sameAt_iff.2 rfl
    have := attSame 0 A n c [] 167772161 (-1) (-1) false false 0 0 A1 n1 c1 [] A2 n2 c2 [] 0 none 0 0 [] 167772161 (-1) (-1) false false 0 0 none 0 0 [] none 0 0 [] w' h1 h2 h3 DL.none_ NF.none_ DL.none_ (by rw [h1.len]; decide) (Lib.hid (by decide)) (by rw [h2.1]; decide) (by rw [h3.len]; decide) (Lib.hid (fun x h => by cases h))
    rw [show (sameAt ⟨0, [], 167772161, -1, -1, false, false, 0, 0, [], []⟩ ⟨0, [], 167772161, -1, -1, false, false, 0, 0, [], []⟩) = true from e] at this
    exact this)
  have HKN := Lib.hid (show ∀ w', LookTab w' → Calls Tryd.prog 50 #[.int .i64 17] w' fun en w'' => en = .returned (.bool true) ∧ w' = w'' from fun w' h => attKnown 17 w' (by decide) h)
  go_enter Tryd.func47, Tryd.ntmps47
  go_wp2_with fail
  refine (attZero w).mono ?_
  rintro _ w1 ⟨rfl, b1⟩
  go_upto_region 2 with fail
  obtain ⟨w2, hw2, hA, b2⟩ := box1c w1 #[.int .i64 0, .slice none 0 0, .int .u32 0, .int .i64 (-1), .int .i64 (-1), .bool false, .bool false, .int .u32 0, .int .u32 0, .slice none 0 0, .slice none 0 0] 54
  try rw [hw2]
  obtain ⟨q, hq⟩ : ∃ q, w1.heap.size = q := ⟨_, rfl⟩
  try rw [hq]
  rw [hq] at hA
  have b02 := btr b1 b2 b1.size
  have hwq : w.heap.size ≤ q := by have := b1.size; omega
  have i2 := hA.cell 2
  have j2 := hA.frozen 2
  clear hw2 hq b1 b2
  go_upto_region 3 with fail
  have A3 := hA.set_ 2 (.int .u32 167772161)
  have b03 := b02.setCell (p := ⟨q, 2, none⟩) hwq (.int .u32 167772161)
  obtain ⟨w3, hw3⟩ : ∃ x, w2.setCell ⟨q, 2, none⟩ (.int .u32 167772161) = x := ⟨_, rfl⟩
  rw [hw3] at A3 b03
  try rw [hw3]
  simp only [List.setIfInBounds_toArray, List.set_cons_succ, List.set_cons_zero] at A3
  clear hw3 hA b02 i2 j2
  have x0 := A3.cell 0
  have x1 := A3.cell 1
  have x2 := A3.cell 2
  have x3 := A3.cell 3
  have x4 := A3.cell 4
  have x5 := A3.cell 5
  have x6 := A3.cell 6
  have x7 := A3.cell 7
  have x8 := A3.cell 8
  have x9 := A3.cell 9
  have x10 := A3.cell 10
  have ht3 := ht.call b03
  have hg3 : 0 < w3.heap.size := Nat.lt_of_lt_of_le hgo b03.size
  go_wp2_with fail
  refine (HPU.out w3 ht3 hg3).mono ?_
  rintro _ w4 ⟨A4, n4, c4, rfl, o4, b4⟩
  have hn4 : n4 = 14 := o4.1.trans exLen04
  subst hn4
  have b04 := btr b03 b4 b03.size
  have ob4 := o4.bs
  have A34 := A3.below b4 A3.lt
  clear x0 x1 x2 x3 x4 x5 x6 x7 x8 x9 x10 ht3 hg3
  go_wp2_with fail
  refine (HRD.out A4 c4 w4 (ht.call b04) ob4).mono ?_
  rintro _ w5 ⟨b5, A5, n5, c5, A6, n6, c6, A7, n7, c7, A8, n8, c8, rfl, d1, d2, d3, d4, hn8, d5⟩
  simp only [exAt] at d1 d2 d3 hn8
  have hn8 : n8 = 3 := hn8
  subst hn8
  have b05 := btr b04 b5 b04.size
  have A35 := A34.below b5 A34.lt
  simp only [exAt]
  go_upto_region 5 with fail
  obtain ⟨w6, hw6, hX, hF, b6⟩ := boxes2 w5 #[.int .i64 0, .slice A5 n5 c5, .int .u32 167772161, .int .i64 (-1), .int .i64 (-1), .bool false, .bool false, .int .u32 0, .int .u32 0, .slice A6 n6 c6, .slice A7 n7 c7] #[.int .i64 0, .int .i64 0, .slice none 0 0] 54 69
  try rw [hw6]
  have b06 := btr b05 b6 b05.size
  have A36 := A35.below b6 A35.lt
  have d16 := d1.keep rSeg_ok (Kp.call b6)
  have d26 := d2.keep (Kp.call b6)
  have d36 := d3.keep rRaw_ok (Kp.call b6)
  clear hw6 d4 d5 o4 ob4 b5 b04 b4 A34 A35
  have y0 := hX.cell 0
  have y1 := hX.cell 1
  have y2 := hX.cell 2
  have y3 := hX.cell 3
  have y4 := hX.cell 4
  have y5 := hX.cell 5
  have y6 := hX.cell 6
  have y7 := hX.cell 7
  have y8 := hX.cell 8
  have y9 := hX.cell 9
  have y10 := hX.cell 10
  have z0 := hF.cell 0
  have x0 := A36.cell 0
  have x1 := A36.cell 1
  have x2 := A36.cell 2
  have x3 := A36.cell 3
  have x4 := A36.cell 4
  have x5 := A36.cell 5
  have x6 := A36.cell 6
  have x7 := A36.cell 7
  have x8 := A36.cell 8
  have x9 := A36.cell 9
  have x10 := A36.cell 10
  go_wp2_with fail
  refine (HSM.out A5 n5 c5 A6 n6 c6 A7 n7 c7 w6 d16 d26 d36).mono ?_
  rintro _ w7 ⟨rfl, b7⟩
  have b07 := btr b06 b7 b06.size
  go_wp2_with fail
  refine (HKN.out w7 (ht.call b07)).mono ?_
  rintro _ _ ⟨rfl, rfl⟩
  go_wp2_with fail
  go_ret
  exact ⟨rfl, b07⟩
end Go.Proofs.YtlpkngjeihoknaaDoor
