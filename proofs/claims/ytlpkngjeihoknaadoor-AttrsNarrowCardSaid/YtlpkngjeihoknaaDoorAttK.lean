/- Plain law of layer 4 (attributes): what bytes say. No program in sight but the numbers of a reader and the table of looks. -/
import Derived.Test.YtlpkngjeihoknaaDoorProg
import Derived.WalkKit
import Derived.WalkSpells
import Derived.WalkLawsBesides
import Derived.Outline
import Derived.Deep.QuietTactic
import Derived.BigQuiet
import Derived.Handy
import Derived.Lib.Hide
import Derived.Test.YtlpkngjeihoknaaDoorAspT
import Derived.Test.YtlpkngjeihoknaaDoorAspQ
import Derived.Test.YtlpkngjeihoknaaDoorAttF
namespace Go.Proofs.YtlpkngjeihoknaaDoor
open Go.RowKit
set_option linter.unusedSimpArgs false
set_option linter.unusedVariables false
/-- An attribute as it came: its flags, its kind, its bytes, all of them, and its value. -/
structure One where
  fl : Int
  kind : Int
  all : List UInt8
  val : List UInt8
/-- How many bytes a value has: two bytes say it, or one. -/
def szV (V : Nat) : Nat := if V / 16 % 2 = 1 then 2 else 1
/-- The next attribute, and what stands behind it. -/
def splitA (b : List UInt8) : Option (One × List UInt8) :=
  let t1 := tkLeft b false (1 : Nat)
  let s1 := tkShort b false (1 : Nat)
  let V := numL (tkOut b false (1 : Nat))
  let t2 := tkLeft t1 s1 (1 : Nat)
  let s2 := tkShort t1 s1 (1 : Nat)
  let z := szV V
  let t3 := tkLeft t2 s2 z
  let s3 := tkShort t2 s2 z
  let N := numL (tkOut t2 s2 z)
  if tkShort t3 s3 N = true then none
  else some (⟨V, numL (tkOut t1 s1 (1 : Nat)), b.take (b.length - (tkLeft t3 s3 N).length), tkOut t3 s3 N⟩, b.drop (b.length - (tkLeft t3 s3 N).length))
theorem splitA_len {b t : List UInt8} {x : One} (h : splitA b = some (x, t)) : t.length < b.length ∨ b = [] := by
  by_cases hb : b = []
  · exact .inr hb
  refine .inl ?_
  have hl : 1 ≤ b.length := by
    cases b with
    | nil => exact absurd rfl hb
    | cons a r => simp
  obtain ⟨e1, e2, e3⟩ := tk_ok (l := b) (k := 1) hl
  unfold splitA at h
  simp only [e1, e2, e3] at h
  split at h
  · cases h
  · injection h with h
    injection h with h1 h2
    rw [← h2, List.length_drop]
    have a1 := tkLeft_len (b.drop 1) false ((1 : Nat) : Int)
    have a2 := tkLeft_len (tkLeft (b.drop 1) false ((1 : Nat) : Int)) (tkShort (b.drop 1) false ((1 : Nat) : Int)) ((szV (numL (b.take 1)) : Nat) : Int)
    have a3 := tkLeft_len (tkLeft (tkLeft (b.drop 1) false ((1 : Nat) : Int)) (tkShort (b.drop 1) false ((1 : Nat) : Int)) ((szV (numL (b.take 1)) : Nat) : Int)) (tkShort (tkLeft (b.drop 1) false ((1 : Nat) : Int)) (tkShort (b.drop 1) false ((1 : Nat) : Int)) ((szV (numL (b.take 1)) : Nat) : Int)) ((numL (tkOut (tkLeft (b.drop 1) false ((1 : Nat) : Int)) (tkShort (b.drop 1) false ((1 : Nat) : Int)) ((szV (numL (b.take 1)) : Nat) : Int)) : Nat) : Int)
    rw [List.length_drop] at a1
    omega
/-- Attributes on their way. -/
structure Gr where
  a : At
  kinds : List Int
  more : List Seg
  hasOld : Bool
  oldAS : Int
  newAS : List UInt8
/-- A fault's number, and its bytes. -/
abbrev FtA := Int × List UInt8
def optF (f : Int) : Bool := decide (f / 128 % 2 = 1)
def trF (f : Int) : Bool := decide (f / 64 % 2 = 1)
def ptF (f : Int) : Bool := decide (f / 32 % 2 = 1)
/-- Where one of a kind belongs. -/
def rawPos (l : List RawV) (k : Int) : Nat := l.findIdx fun y => decide (k < y.2.1)
def insR (l : List RawV) (x : One) : List RawV := l.take (rawPos l x.kind) ++ [(224, x.kind, x.val)] ++ l.drop (rawPos l x.kind)
def unkA (g : Gr) (x : One) : Except FtA Gr :=
  if optF x.fl = false then .error (2, x.all)
  else if trF x.fl = false then .ok g
  else if 64 < x.val.length ∨ 8 ≤ g.a.raws.length then .error (9, x.all)
  else .ok { g with a := { g.a with raws := insR g.a.raws x } }
/-- Whether a value has too few bytes, or too many. -/
def badLen (wide : Bool) (k : Int) (n : Nat) : Bool :=
  if k = 7 then decide (n ≠ if wide then 8 else 6)
  else if k = 8 then decide (n % 4 ≠ 0)
  else decide (n < (lookAt k.toNat).2.1 ∨ (lookAt k.toNat).2.2 < n)
def formA (wide : Bool) (x : One) : Int :=
  if x.fl / 64 % 4 * 64 ≠ flagsA x.kind ∨ ptF x.fl = true ∧ flagsA x.kind ≠ 192 then 4
  else if badLen wide x.kind x.val.length = true then 5
  else 0
/-- A number of sz bytes in front, and one behind it. -/
def numF (sz : Nat) (l : List UInt8) : Int := (numL (tkOut l false sz) : Nat)
def numSec (sz : Nat) (l : List UInt8) : Int := (numL (tkOut (tkLeft l false sz) (tkShort l false sz) (4 : Nat)) : Nat)
def commsA (l : List UInt8) : List Int := match numsO 4 (l.length / 4) l with
  | some p => p.1
  | none => []
def knwA (wide : Bool) (g : Gr) (x : One) : Except FtA Gr :=
  if x.kind = 1 then (if 2 < numF 1 x.val then .error (6, x.all) else .ok { g with a := { g.a with origin := numF 1 x.val } })
  else if x.kind = 2 then (match readA wide x.val with
    | none => .error (11, [])
    | some l => .ok { g with a := { g.a with path := l } })
  else if x.kind = 3 then (if nextA (numF 4 x.val) = true then .ok { g with a := { g.a with next := numF 4 x.val } } else .error (8, x.all))
  else if x.kind = 4 then .ok { g with a := { g.a with med := numF 4 x.val } }
  else if x.kind = 5 then .ok { g with a := { g.a with pref := numF 4 x.val } }
  else if x.kind = 6 then .ok { g with a := { g.a with atomic := true } }
  else if x.kind = 7 then .ok { g with a := { g.a with aggrAS := numF (szA wide) x.val, hasAggr := true, aggrAddr := numSec (szA wide) x.val }, hasOld := true, oldAS := numF (szA wide) x.val }
  else if x.kind = 8 then (if 32 < x.val.length / 4 then .error (9, x.all) else .ok { g with a := { g.a with comms := g.a.comms ++ commsA x.val } })
  else if x.kind = 17 then .ok { g with more := (readA true x.val).getD [] }
  else if x.kind = 18 then .ok (if x.val.length = 8 then { g with newAS := x.val } else g)
  else .ok g
def endA (wide : Bool) (g : Gr) : At :=
  if wide = true ∨ g.hasOld = true ∧ g.oldAS ≠ 23456 then g.a
  else
    let a : At := if hasN g.kinds 2 = true then { g.a with path := mergeA g.a.path g.more } else g.a
    if g.hasOld = true ∧ 0 < g.newAS.length then { a with aggrAS := numF 4 g.newAS, aggrAddr := numSec 4 g.newAS } else a
/-- One attribute more. -/
def stepA (wide : Bool) (g : Gr) (x : One) : Except FtA Gr :=
  if hasN g.kinds x.kind = true then .error (1, [])
  else if knownA x.kind = true then
    (if formA wide x ≠ 0 then .error (formA wide x, x.all) else knwA wide { g with kinds := g.kinds ++ [x.kind] } x)
  else unkA { g with kinds := g.kinds ++ [x.kind] } x
def loopA (wide : Bool) : Nat → Gr → List UInt8 → Except FtA Gr
  | 0, g, _ => .ok g
  | _ + 1, g, [] => .ok g
  | f + 1, g, b@(_ :: _) => match splitA b with
    | none => .error (1, [])
    | some (x, t) => match stepA wide g x with
      | .error e => .error e
      | .ok g' => loopA wide f g' t
def zeroAt : At := ⟨0, [], 0, -1, -1, false, false, 0, 0, [], []⟩
def zeroGr : Gr := ⟨zeroAt, [], [], false, 0, []⟩
/-- What bytes say: attributes, and the kinds that came; or a fault. -/
def readAt (b : List UInt8) (wide : Bool) : Except FtA (At × List Int) :=
  match loopA wide b.length zeroGr b with
  | .error e => .error e
  | .ok g => .ok (endA wide g, g.kinds)
theorem knwA_kinds {wide : Bool} {g g' : Gr} {x : One} (h : knwA wide g x = .ok g') : g'.kinds = g.kinds := by
  unfold knwA at h
  by_cases c1 : x.kind = 1
  · rw [if_pos c1] at h
    by_cases c : 2 < numF 1 x.val
    · rw [if_pos c] at h; cases h
    · rw [if_neg c] at h; cases h; rfl
  rw [if_neg c1] at h
  by_cases c2 : x.kind = 2
  · rw [if_pos c2] at h
    cases hr : readA wide x.val <;> rw [hr] at h <;> cases h
    rfl
  rw [if_neg c2] at h
  by_cases c3 : x.kind = 3
  · rw [if_pos c3] at h
    by_cases c : nextA (numF 4 x.val) = true
    · rw [if_pos c] at h; cases h; rfl
    · rw [if_neg c] at h; cases h
  rw [if_neg c3] at h
  by_cases c4 : x.kind = 4
  · rw [if_pos c4] at h; cases h; rfl
  rw [if_neg c4] at h
  by_cases c5 : x.kind = 5
  · rw [if_pos c5] at h; cases h; rfl
  rw [if_neg c5] at h
  by_cases c6 : x.kind = 6
  · rw [if_pos c6] at h; cases h; rfl
  rw [if_neg c6] at h
  by_cases c7 : x.kind = 7
  · rw [if_pos c7] at h; cases h; rfl
  rw [if_neg c7] at h
  by_cases c8 : x.kind = 8
  · rw [if_pos c8] at h
    by_cases c : 32 < x.val.length / 4
    · rw [if_pos c] at h; cases h
    · rw [if_neg c] at h; cases h; rfl
  rw [if_neg c8] at h
  by_cases c9 : x.kind = 17
  · rw [if_pos c9] at h; cases h; rfl
  rw [if_neg c9] at h
  by_cases c10 : x.kind = 18
  · rw [if_pos c10] at h
    by_cases c : x.val.length = 8
    · rw [if_pos c] at h; cases h; rfl
    · rw [if_neg c] at h; cases h; rfl
  rw [if_neg c10] at h
  cases h
  rfl
theorem unkA_kinds {g g' : Gr} {x : One} (h : unkA g x = .ok g') : g'.kinds = g.kinds := by
  unfold unkA at h
  by_cases c1 : optF x.fl = false
  · rw [if_pos c1] at h; cases h
  rw [if_neg c1] at h
  by_cases c2 : trF x.fl = false
  · rw [if_pos c2] at h; cases h; rfl
  rw [if_neg c2] at h
  by_cases c3 : 64 < x.val.length ∨ 8 ≤ g.a.raws.length
  · rw [if_pos c3] at h; cases h
  · rw [if_neg c3] at h; cases h; rfl
theorem kinds_nodup {wide : Bool} {g g' : Gr} {x : One} (h : stepA wide g x = .ok g') : hasN g.kinds x.kind = false ∧ g'.kinds = g.kinds ++ [x.kind] := by
  unfold stepA at h
  by_cases c1 : hasN g.kinds x.kind = true
  · rw [if_pos c1] at h; cases h
  rw [if_neg c1] at h
  refine ⟨by simpa using c1, ?_⟩
  by_cases c2 : knownA x.kind = true
  · rw [if_pos c2] at h
    by_cases c3 : formA wide x ≠ 0
    · rw [if_pos c3] at h; cases h
    · rw [if_neg c3] at h; exact knwA_kinds h
  · rw [if_neg c2] at h; exact unkA_kinds h
end Go.Proofs.YtlpkngjeihoknaaDoor
