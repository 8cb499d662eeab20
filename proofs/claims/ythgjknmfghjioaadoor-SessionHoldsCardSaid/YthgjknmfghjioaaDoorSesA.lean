/- The plain law of layer 23 (session): what a session is, and what an event does to it. No program in sight. No conditions. -/
import Derived.Test.YthgjknmfghjioaaDoorFsmPlain
import Derived.Test.YthgjknmfghjioaaDoorOctPlain
namespace Go.Proofs.YthgjknmfghjioaaDoor
open Go.RowKit
/-- What never changes of a session. -/
structure SesK where
  la : Nat
  li : Nat
  lx : Nat
  lh : Int
  pa : Nat
  pd : Int
  pl : Int
  Ai : Option Addr
  ni : Nat
  ci : Nat
  Ao : Option Addr
  no : Nat
  co : Nat
  ps : Bool
/-- What changes. -/
structure SesV where
  st : Int
  t0 : Int
  t1 : Int
  t2 : Int
  wd : Bool
  id : Nat
  ho : Int
def ses0 : SesV := ⟨0, 0, 0, 0, false, 0, 0⟩
def sesC (K : SesK) (V : SesV) : Array Value := #[.int .u32 K.la, .int .u32 K.li, .int .u32 K.lx, .int .i64 K.lh, .int .u32 K.pa, .int .u32 K.pd, .int .i64 K.pl, .slice K.Ai K.ni K.ci, .slice K.Ao K.no K.co, .bool K.ps, .int .i64 V.st, .int .i64 V.t0, .int .i64 V.t1, .int .i64 V.t2, .bool V.wd, .int .u32 V.id, .int .i64 V.ho]
/-- A deed's bit. -/
def bitB (d k : Int) : Bool := bits .and .i64 d k != 0
def pos (n : Int) : Int := if n < 0 then 0 else n
/-- The next state, and the deeds. -/
def sesIn (e : Int) : Prop := 0 ≤ e ∧ e < 16
instance (e : Int) : Decidable (sesIn e) := inferInstanceAs (Decidable (_ ∧ _))
def sesPas (ps : Bool) (st e : Int) : Prop := ps = true ∧ st = 0 ∧ e = 0
instance (ps : Bool) (st e : Int) : Decidable (sesPas ps st e) := inferInstanceAs (Decidable (_ ∧ _))
def sesTo (ps : Bool) (st e : Int) : Int := if sesIn e then (if sesPas ps st e then 2 else fsmTo st e) else st
def sesDo (ps : Bool) (st e : Int) : Int := if sesIn e then (if sesPas ps st e then 0 else fsmDo st e) else 0
/-- The times, by deeds. -/
def timA (d : Int) (V : SesV) : SesV := if bitB d 2048 = true then { V with t0 := 0, t1 := 0, t2 := 0 } else V
/-- A session's times' place. -/
def timP (j : Nat) (d k n : Int) (V : SesV) : SesV := if bitB d k = true then (if j = 0 then { V with t0 := pos n } else if j = 1 then { V with t1 := pos n } else { V with t2 := pos n }) else V
theorem timP_ho (j : Nat) (d k n : Int) (V : SesV) : (timP j d k n V).ho = V.ho := by
  unfold timP
  split
  · split
    · rfl
    · split <;> rfl
  · rfl
theorem timA_ho (d : Int) (V : SesV) : (timA d V).ho = V.ho := by
  unfold timA
  split <;> rfl
def sesT (d : Int) (V : SesV) : SesV := timP 2 d 1024 (V.ho.tdiv 3) (timP 1 d 512 V.ho (timP 1 d 256 240 (timP 0 d 128 10 (timA d V))))
/-- Where a session stands behind an event. -/
def sesV (ps : Bool) (V : SesV) (e : Int) : SesV :=
  if sesIn e then (if sesTo ps V.st e = 0 then ses0 else sesT (sesDo ps V.st e) { V with st := sesTo ps V.st e }) else V
end Go.Proofs.YthgjknmfghjioaaDoor
