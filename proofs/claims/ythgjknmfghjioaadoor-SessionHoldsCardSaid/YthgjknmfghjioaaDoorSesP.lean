/- The plain law of layer 23 (session): what comes of an event, of a message and of a tick. No program in sight. No conditions. -/
import Derived.Test.YthgjknmfghjioaaDoorSesA
import Derived.Test.YthgjknmfghjioaaDoorFrame
import Derived.Test.YthgjknmfghjioaaDoorNotPut
import Derived.Test.YthgjknmfghjioaaDoorOpnK
namespace Go.Proofs.YthgjknmfghjioaaDoor
open Go.RowKit
/-- A fault as numbers and bytes. -/
abbrev Flt := Int × Int × List UInt8
def fltE (e : Int) (f : Flt) : Flt := if e == 8 || e == 9 || e == 14 then f else if e == 5 then (4, 0, []) else if e == 1 then (6, 2, []) else if e == 10 then (6, 7, []) else if e == 15 then (6, 1, []) else (5, 0, [])
/-- What comes of a step. -/
structure OutV where
  ev : Int
  was : Int
  nx : Int
  kinds : List Int
  flt : Flt
  sent : List UInt8
  rise : Bool
  fall : Bool
  dial : Bool
  hang : Bool
def mineO (K : SesK) : Opn := ⟨4, mineA K.la, mineH K.lh, K.li, [(65, b32 K.la)]⟩
def doFlt (d e : Int) (f : Flt) : Flt := if bitB d 16 = true then fltE e f else (0, 0, [])
def doKinds (d : Int) : List Int := if bitB d 4 = true then [1] else if bitB d 8 = true then [4] else if bitB d 16 = true then [3] else []
def doSent (K : SesK) (d e : Int) (f : Flt) : List UInt8 := if bitB d 4 = true then fpOut 1 (putB (mineO K)) else if bitB d 8 = true then fpOut 4 [] else if bitB d 16 = true then fpOut 3 (npOut (fltE e f).1 (fltE e f).2.1 (fltE e f).2.2) else []
def doOut (K : SesK) (V : SesV) (e : Int) (f : Flt) : OutV :=
  let d := sesDo K.ps V.st e
  ⟨e, V.st, sesTo K.ps V.st e, doKinds d, doFlt d e f, doSent K d e f, bitB d 32, bitB d 64, bitB d 1, bitB d 2⟩
/-- How what comes of a step stands in cells. -/
def outA (O : OutV) (At : Option Addr) (nt ct : Nat) (Af : Option Addr) (nf cf : Nat) (As : Option Addr) (ns cs : Nat) : Array Value := #[.int .i64 O.ev, .int .i64 O.was, .int .i64 O.nx, .slice At nt ct, .int .i64 O.flt.1, .int .i64 O.flt.2.1, .slice Af nf cf, .slice As ns cs, .slice none 0 0, .int .i64 0, .slice none 0 0, .int .u32 0, .int .i64 0, .int .i64 0, .bool false, .bool false, .int .u32 0, .int .u32 0, .slice none 0 0, .slice none 0 0, .slice none 0 0, .bool false, .bool O.rise, .bool O.fall, .bool O.dial, .bool O.hang]
theorem bit_cls_in : ∀ s : Fin 6, ∀ e : Fin 16, (bitB ((fsmCell s e).2 : Int) 4 = true → bitB ((fsmCell s e).2 : Int) 8 = false ∧ bitB ((fsmCell s e).2 : Int) 16 = false) ∧ (bitB ((fsmCell s e).2 : Int) 8 = true → bitB ((fsmCell s e).2 : Int) 16 = false) := by decide +kernel
theorem bit_cls (s e : Int) : (bitB (fsmDo s e) 4 = true → bitB (fsmDo s e) 8 = false ∧ bitB (fsmDo s e) 16 = false) ∧ (bitB (fsmDo s e) 8 = true → bitB (fsmDo s e) 16 = false) := by
  by_cases h : 0 ≤ s ∧ s < 6 ∧ 0 ≤ e ∧ e < 16
  · obtain ⟨h1, h2, h3, h4⟩ := h
    obtain ⟨s, rfl⟩ := Int.eq_ofNat_of_zero_le h1
    obtain ⟨e, rfl⟩ := Int.eq_ofNat_of_zero_le h3
    have := bit_cls_in ⟨s, by omega⟩ ⟨e, by omega⟩
    rw [fsmDo_in s e (by omega) (by omega)]
    exact this
  · rw [fsmDo_out s e h]; decide +kernel
theorem sesDo_cls (ps : Bool) (s e : Int) : (bitB (sesDo ps s e) 4 = true → bitB (sesDo ps s e) 8 = false ∧ bitB (sesDo ps s e) 16 = false) ∧ (bitB (sesDo ps s e) 8 = true → bitB (sesDo ps s e) 16 = false) := by
  unfold sesDo
  split
  · split
    · decide +kernel
    · exact bit_cls s e
  · decide +kernel
theorem mineO_ok (K : SesK) : putOk (mineO K) = true := by
  unfold putOk mineO mineA mineH
  have h1 : (0:Int) ≤ (if K.la ≤ 65535 then (K.la : Int) else 23456) ∧ (if K.la ≤ 65535 then (K.la : Int) else 23456) ≤ 65535 := by split <;> omega
  have h2 : (0:Int) ≤ (if K.lh < 0 then 0 else if K.lh > 65535 then 65535 else K.lh) ∧ (if K.lh < 0 then 0 else if K.lh > 65535 then 65535 else K.lh) ≤ 65535 := by split <;> (try split) <;> omega
  simp only [h1, h2, and_self, decide_true, Bool.and_true]
  have h3 : (b32 (K.la : Int)).length = 4 := rfl
  have h4 : (capsB [(65, b32 (K.la : Int))]).length = 6 := rfl
  have h5 : capOk (65, b32 (K.la : Int)) = true := by unfold capOk; exact decide_eq_true ⟨(show (0 : Int) ≤ 65 by decide), (show (65 : Int) ≤ 255 by decide), by rw [h3]; decide⟩
  unfold capsOk
  rw [List.all_cons, List.all_nil, h5, h4]
  rfl
/-- What may be of a session's numbers. -/
structure SesOk (V : SesV) : Prop where
  s0 : 0 ≤ V.st
  s1 : V.st < 6
  h0 : 0 ≤ V.ho
  h1 : V.ho ≤ 65535
  a0 : 0 ≤ V.t0
  a1 : V.t0 ≤ 65535
  b0 : 0 ≤ V.t1
  b1 : V.t1 ≤ 65535
  c0 : 0 ≤ V.t2
  c1 : V.t2 ≤ 65535
  id : V.id < 4294967296
theorem SesOk.zero : SesOk ses0 := ⟨by decide, by decide, by decide, by decide, by decide, by decide, by decide, by decide, by decide, by decide, by decide⟩
theorem pos_ok {n : Int} (h : n ≤ 65535) : 0 ≤ pos n ∧ pos n ≤ 65535 := by unfold pos; split <;> omega
theorem SesOk.timP {V : SesV} (h : SesOk V) (j : Nat) (d k n : Int) (hn : n ≤ 65535) : SesOk (timP j d k n V) := by
  have := pos_ok hn
  obtain ⟨x0, x1, x2, x3, x4, x5, x6, x7, x8, x9, x10⟩ := h
  unfold Go.Proofs.YthgjknmfghjioaaDoor.timP
  split
  · split
    · exact ⟨x0, x1, x2, x3, this.1, this.2, x6, x7, x8, x9, x10⟩
    · split
      · exact ⟨x0, x1, x2, x3, x4, x5, this.1, this.2, x8, x9, x10⟩
      · exact ⟨x0, x1, x2, x3, x4, x5, x6, x7, this.1, this.2, x10⟩
  · exact ⟨x0, x1, x2, x3, x4, x5, x6, x7, x8, x9, x10⟩
theorem SesOk.timA {V : SesV} (h : SesOk V) (d : Int) : SesOk (timA d V) := by
  obtain ⟨x0, x1, x2, x3, x4, x5, x6, x7, x8, x9, x10⟩ := h
  unfold Go.Proofs.YthgjknmfghjioaaDoor.timA
  split
  · exact ⟨x0, x1, x2, x3, Int.le_refl 0, (show (0 : Int) ≤ 65535 by decide), Int.le_refl 0, (show (0 : Int) ≤ 65535 by decide), Int.le_refl 0, (show (0 : Int) ≤ 65535 by decide), x10⟩
  · exact ⟨x0, x1, x2, x3, x4, x5, x6, x7, x8, x9, x10⟩
theorem fsmTo_lt_in : ∀ s : Fin 6, ∀ e : Fin 16, (fsmCell s e).1 < 6 := by decide +kernel
theorem fsmTo_ok (s e : Int) : 0 ≤ fsmTo s e ∧ fsmTo s e < 6 := by
  by_cases h : 0 ≤ s ∧ s < 6 ∧ 0 ≤ e ∧ e < 16
  · obtain ⟨h1, h2, h3, h4⟩ := h
    obtain ⟨s, rfl⟩ := Int.eq_ofNat_of_zero_le h1
    obtain ⟨e, rfl⟩ := Int.eq_ofNat_of_zero_le h3
    have := fsmTo_lt_in ⟨s, by omega⟩ ⟨e, by omega⟩
    rw [fsmTo_in s e (by omega) (by omega)]
    simp only at this
    omega
  · rw [fsmTo_out s e h]; omega
theorem sesTo_ok (ps : Bool) {st : Int} (e : Int) (h0 : 0 ≤ st) (h1 : st < 6) : 0 ≤ sesTo ps st e ∧ sesTo ps st e < 6 := by
  unfold sesTo
  split
  · split
    · omega
    · exact fsmTo_ok st e
  · exact ⟨h0, h1⟩
theorem SesOk.step {V : SesV} (h : SesOk V) (ps : Bool) (e : Int) : SesOk (sesV ps V e) := by
  unfold sesV
  split
  · split
    · exact SesOk.zero
    · have hs := sesTo_ok ps e h.s0 h.s1
      have h' : SesOk { V with st := sesTo ps V.st e } := by
        obtain ⟨x0, x1, x2, x3, x4, x5, x6, x7, x8, x9, x10⟩ := h
        exact ⟨hs.1, hs.2, x2, x3, x4, x5, x6, x7, x8, x9, x10⟩
      unfold sesT
      have e3 : V.ho.tdiv 3 = V.ho / 3 := by rw [Int.tdiv_eq_ediv_of_nonneg h.h0]
      have := h.h0; have := h.h1
      exact ((((h'.timA _).timP 0 _ _ 10 (by omega)).timP 1 _ _ 240 (by omega)).timP 1 _ _ V.ho h.h1).timP 2 _ _ (V.ho.tdiv 3) (by omega)
  · exact h
/-- A session that took an OPEN. -/
def sesTook (K : SesK) (V : SesV) (o : Opn) : SesV := { V with wd := (wideO o.caps).2, id := o.id, ho := holdO o.hold (mineH K.lh) }
/-- An OPEN comes: which event it is, with which fault, and what is known then. -/
def sesOpen (K : SesK) (V : SesV) (l : List UInt8) : SesV × Int × Flt :=
  if V.st = 3 then
    match readO l with
    | .inl f => (V, 9, (2, (f : Int), []))
    | .inr o =>
      let r := checkO o.ver o.asn o.hold o.id o.caps K.pa K.li
      if r.1 = 0 then (sesTook K V o, 7, (0, 0, [])) else (V, 9, (2, (r.1 : Int), r.2))
  else (V, 7, (0, 0, []))
def tkD (x : Int) : Int := if x ≤ 0 then x else x - 1
def sesDown (V : SesV) : SesV := { V with t0 := tkD V.t0, t1 := tkD V.t1, t2 := tkD V.t2 }
def sesOver (V : SesV) : List Int := (if V.t0 = 1 then [0] else []) ++ (if V.t1 = 1 then [1] else []) ++ (if V.t2 = 1 then [2] else [])
def tickGo (K : SesK) : SesV → List Int → SesV × List OutV
  | V, [] => (V, [])
  | V, i :: r => if V.st = 0 then tickGo K V r else ((tickGo K (sesV K.ps V (4 + i)) r).1, doOut K V (4 + i) (0, 0, []) :: (tickGo K (sesV K.ps V (4 + i)) r).2)
def sesTick (K : SesK) (V : SesV) : SesV × List OutV := tickGo K (sesDown V) (sesOver V)
theorem SesOk.down {V : SesV} (h : SesOk V) : SesOk (sesDown V) := by
  obtain ⟨x0, x1, x2, x3, x4, x5, x6, x7, x8, x9, x10⟩ := h
  have k : ∀ x, 0 ≤ x → x ≤ 65535 → 0 ≤ tkD x ∧ tkD x ≤ 65535 := fun x _ _ => by unfold tkD; split <;> omega
  exact ⟨x0, x1, x2, x3, (k _ x4 x5).1, (k _ x4 x5).2, (k _ x6 x7).1, (k _ x6 x7).2, (k _ x8 x9).1, (k _ x8 x9).2, x10⟩
theorem SesOk.go (K : SesK) : ∀ (l : List Int) {V : SesV}, SesOk V → SesOk (tickGo K V l).1 := by
  intro l
  induction l with
  | nil => intro V h; exact h
  | cons i r ih =>
    intro V h
    unfold tickGo
    split
    · exact ih h
    · exact ih (h.step _ _)
theorem SesOk.tick {V : SesV} (h : SesOk V) (K : SesK) : SesOk (sesTick K V).1 := SesOk.go K _ h.down
theorem tickGo_len (K : SesK) : ∀ (l : List Int) (V : SesV), (tickGo K V l).2.length ≤ l.length := by
  intro l
  induction l with
  | nil => intro V; exact Nat.le_refl _
  | cons i r ih =>
    intro V
    unfold tickGo
    split
    · exact Nat.le_trans (ih V) (by simp)
    · simp only [List.length_cons]; have := ih (sesV K.ps V (4 + i)); omega
theorem tickGo_snoc (K : SesK) : ∀ (l : List Int) (V : SesV) (i : Int), tickGo K V (l ++ [i]) = if (tickGo K V l).1.st = 0 then tickGo K V l else (sesV K.ps (tickGo K V l).1 (4 + i), (tickGo K V l).2 ++ [doOut K (tickGo K V l).1 (4 + i) (0, 0, [])]) := by
  intro l
  induction l with
  | nil =>
    intro V i
    simp only [List.nil_append, tickGo]
    split <;> simp_all
  | cons j r ih =>
    intro V i
    rw [List.cons_append]
    by_cases h : V.st = 0
    · have e : ∀ q, tickGo K V (j :: q) = tickGo K V q := fun q => by rw [tickGo, if_pos h]
      rw [e, e, ih]
    · have e : ∀ q, tickGo K V (j :: q) = ((tickGo K (sesV K.ps V (4 + j)) q).1, doOut K V (4 + j) (0, 0, []) :: (tickGo K (sesV K.ps V (4 + j)) q).2) := fun q => by rw [tickGo, if_neg h]
      rw [e, e, ih]
      split <;> rfl
end Go.Proofs.YthgjknmfghjioaaDoor
