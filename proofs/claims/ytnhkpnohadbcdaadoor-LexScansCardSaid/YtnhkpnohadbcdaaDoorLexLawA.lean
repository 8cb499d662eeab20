/- The statement LexKinds: its walk. Conditions: the tables. -/
import Derived.Test.YtnhkpnohadbcdaaDoorProg
import Derived.WalkKit
import Derived.WalkSpells
import Derived.WalkLawsBesides
import Derived.Outline
import Derived.Deep.QuietTactic
import Derived.BigQuiet
import Derived.Handy
import Derived.Lib.Hide
import Derived.Test.YtnhkpnohadbcdaaDoorLexF
namespace Go.Proofs.YtnhkpnohadbcdaaDoor
open Go.RowKit
set_option linter.unusedSimpArgs false
set_option linter.unusedVariables false
theorem asW (t : Tk) (V : Value) (S : ByteArray) (b : Bool) (hV : t.v = V) (hS : t.asWord = S) (hb : (t.kind == 1) = b) (w : World) : Calls Tryd.prog 66 #[V] w fun e w' => e = .returned (.tuple #[.string S, .bool b]) ∧ Below w.heap.size w w' := by
  subst hV hS hb; exact lexAsWord t w
theorem asN (t : Tk) (V : Value) (S : Int) (b : Bool) (hV : t.v = V) (hS : t.asNum = S) (hb : (t.kind == 2) = b) (w : World) : Calls Tryd.prog 67 #[V] w fun e w' => e = .returned (.tuple #[.int .i64 S, .bool b]) ∧ Below w.heap.size w w' := by
  subst hV hS hb; exact lexAsNum t w
theorem asQ (t : Tk) (V : Value) (S : ByteArray) (b : Bool) (hV : t.v = V) (hS : t.asQuo = S) (hb : (t.kind == 3) = b) (w : World) : Calls Tryd.prog 68 #[V] w fun e w' => e = .returned (.tuple #[.string S, .bool b]) ∧ Below w.heap.size w w' := by
  subst hV hS hb; exact lexAsQuo t w
theorem asK (t : Tk) (V : Value) (k : Int) (hV : t.v = V) (hb : t.kind = k) (w : World) : Calls Tryd.prog 69 #[V] w fun e w' => e = .returned (.int .i64 k) ∧ Below w.heap.size w w' := by
  subst hV hb; exact lexKind t w
def valT (k : Int) (s : ByteArray) (n : Int) : Tk := if k = 1 then .word s else if k = 2 then .num n else if k = 3 then .quo s else if k = 4 then .str s else if k = 5 then .int n else .none
set_option maxHeartbeats 2000000 in
set_option maxRecDepth 100000 in
theorem lawValue (k : Int) (s : ByteArray) (n : Int) (w : World) : Calls Tryd.prog 65 #[.int .i64 k, .string s, .int .i64 n] w fun e w' => e = .returned (valT k s n).v ∧ Below w.heap.size w w' := by
  by_cases h1 : k = 1
  · subst h1
    show Calls Tryd.prog 65 _ w fun e w' => e = .returned (Tk.v (.word s)) ∧ Below w.heap.size w w'
    go_enter Tryd.func65, Tryd.ntmps65
    go_wp2_with fail
    go_ret
    exact ⟨rfl, Below.refl _ _⟩
  have t1 : (k == 1) = false := by simpa using h1
  by_cases h2 : k = 2
  · subst h2
    show Calls Tryd.prog 65 _ w fun e w' => e = .returned (Tk.v (.num n)) ∧ Below w.heap.size w w'
    go_enter Tryd.func65, Tryd.ntmps65
    go_wp2_with fail
    go_ret
    exact ⟨rfl, Below.refl _ _⟩
  have t2 : (k == 2) = false := by simpa using h2
  by_cases h3 : k = 3
  · subst h3
    show Calls Tryd.prog 65 _ w fun e w' => e = .returned (Tk.v (.quo s)) ∧ Below w.heap.size w w'
    go_enter Tryd.func65, Tryd.ntmps65
    go_wp2_with fail
    go_ret
    exact ⟨rfl, Below.refl _ _⟩
  have t3 : (k == 3) = false := by simpa using h3
  by_cases h4 : k = 4
  · subst h4
    show Calls Tryd.prog 65 _ w fun e w' => e = .returned (Tk.v (.str s)) ∧ Below w.heap.size w w'
    go_enter Tryd.func65, Tryd.ntmps65
    go_wp2_with fail
    go_ret
    exact ⟨rfl, Below.refl _ _⟩
  have t4 : (k == 4) = false := by simpa using h4
  by_cases h5 : k = 5
  · subst h5
    show Calls Tryd.prog 65 _ w fun e w' => e = .returned (Tk.v (.int n)) ∧ Below w.heap.size w w'
    go_enter Tryd.func65, Tryd.ntmps65
    go_wp2_with fail
    go_ret
    exact ⟨rfl, Below.refl _ _⟩
  have t5 : (k == 5) = false := by simpa using h5
  have HG := Lib.hid (show (valT k s n).v = .nilIface by unfold valT; rw [if_neg h1, if_neg h2, if_neg h3, if_neg h4, if_neg h5]; rfl)
  clear h1 h2 h3 h4 h5
  go_enter Tryd.func65, Tryd.ntmps65
  go_wp2_with fail
  go_ret
  exact ⟨by rw [HG.out]; rfl, Below.refl _ _⟩
theorem valAny (k : Int) (s : ByteArray) (n : Int) (V : Value) (hV : Hid ((valT k s n).v = V)) (w : World) : Calls Tryd.prog 65 #[.int .i64 k, .string s, .int .i64 n] w fun e w' => e = .returned V ∧ Below w.heap.size w w' := by
  rw [← hV.out]; exact lawValue k s n w
set_option maxHeartbeats 8000000 in
set_option maxRecDepth 100000 in
theorem lawLexKinds (w : World) (k : Int) (wk : (Lit.int .i64 k).wf = true) (s : ByteArray) (ws : s.size ≤ maxLen) (n : Int) (wn : (Lit.int .i64 n).wf = true) (ht : DigTab w) (hT : UT w) :
    Calls Tryd.prog 13 #[.int .i64 k, .string s, .int .i64 n] w fun en w' => en = .returned (.bool true) ∧ Below w.heap.size w w' := by
  clear wk wn ws
  by_cases hl : 500 < s.size
  · have t0 : decide ((500 : Int) < (s.size : Int)) = true := decide_eq_true (by omega)
    go_enter Tryd.func13, Tryd.ntmps13
    go_wp2_with fail
    refine (awake13 _ ht hT).mono ?_
    rintro _ w1 ⟨rfl, b1⟩
    have b01 := b1
    go_wp2_with fail
    go_ret
    exact ⟨rfl, b01⟩
  have t0 : decide ((500 : Int) < (s.size : Int)) = false := decide_eq_false (by omega)
  clear hl
  by_cases h1 : k = 1
  · subst h1
    have HV := Lib.hid (show (valT 1 s n).v = .iface 107 (.string s) from rfl)
    go_enter Tryd.func13, Tryd.ntmps13
    go_wp2_with fail
    refine (valAny 1 s n _ HV _).mono ?_
    rintro _ w1 ⟨rfl, b1⟩
    have b01 := b1
    go_wp2_with fail
    refine (asW (.word s) _ s true rfl rfl rfl _).mono ?_
    rintro _ w2 ⟨rfl, b2⟩
    have b02 := btr b01 b2 b01.size
    go_wp2_with fail
    refine (asN (.word s) _ 0 false rfl rfl rfl _).mono ?_
    rintro _ w3 ⟨rfl, b3⟩
    have b03 := btr b02 b3 b02.size
    go_wp2_with fail
    refine (asQ (.word s) _ ⟨#[]⟩ false rfl rfl rfl _).mono ?_
    rintro _ w4 ⟨rfl, b4⟩
    have b04 := btr b03 b4 b03.size
    go_wp2_with fail
    refine (asK (.word s) _ 1 rfl rfl _).mono ?_
    rintro _ w5 ⟨rfl, b5⟩
    have b05 := btr b04 b5 b04.size
    go_wp2_with fail
    refine (lexMustWord _ _).mono ?_
    rintro _ w6 ⟨rfl, b6⟩
    have b06 := btr b05 b6 b05.size
    go_wp2_with fail
    refine (awake13 _ (ht.call b06) (hT.call b06)).mono ?_
    rintro _ w7 ⟨rfl, b7⟩
    have b07 := btr b06 b7 b06.size
    go_wp2_with fail
    go_ret
    exact ⟨rfl, b07⟩
  by_cases h2 : k = 2
  · subst h2
    have HV := Lib.hid (show (valT 2 s n).v = .iface 108 (.int .i64 n) from rfl)
    go_enter Tryd.func13, Tryd.ntmps13
    go_wp2_with fail
    refine (valAny 2 s n _ HV _).mono ?_
    rintro _ w1 ⟨rfl, b1⟩
    have b01 := b1
    go_wp2_with fail
    refine (asW (.num n) _ ⟨#[]⟩ false rfl rfl rfl _).mono ?_
    rintro _ w2 ⟨rfl, b2⟩
    have b02 := btr b01 b2 b01.size
    go_wp2_with fail
    refine (asN (.num n) _ n true rfl rfl rfl _).mono ?_
    rintro _ w3 ⟨rfl, b3⟩
    have b03 := btr b02 b3 b02.size
    go_wp2_with fail
    refine (asQ (.num n) _ ⟨#[]⟩ false rfl rfl rfl _).mono ?_
    rintro _ w4 ⟨rfl, b4⟩
    have b04 := btr b03 b4 b03.size
    go_wp2_with fail
    refine (asK (.num n) _ 2 rfl rfl _).mono ?_
    rintro _ w5 ⟨rfl, b5⟩
    have b05 := btr b04 b5 b04.size
    go_wp2_with fail
    refine (lexMustNum _ _).mono ?_
    rintro _ w6 ⟨rfl, b6⟩
    have b06 := btr b05 b6 b05.size
    go_wp2_with fail
    refine (awake13 _ (ht.call b06) (hT.call b06)).mono ?_
    rintro _ w7 ⟨rfl, b7⟩
    have b07 := btr b06 b7 b06.size
    go_wp2_with fail
    go_ret
    exact ⟨rfl, b07⟩
  by_cases h3 : k = 3
  · subst h3
    have HV := Lib.hid (show (valT 3 s n).v = .iface 109 (.string s) from rfl)
    go_enter Tryd.func13, Tryd.ntmps13
    go_wp2_with fail
    refine (valAny 3 s n _ HV _).mono ?_
    rintro _ w1 ⟨rfl, b1⟩
    have b01 := b1
    go_wp2_with fail
    refine (asW (.quo s) _ ⟨#[]⟩ false rfl rfl rfl _).mono ?_
    rintro _ w2 ⟨rfl, b2⟩
    have b02 := btr b01 b2 b01.size
    go_wp2_with fail
    refine (asN (.quo s) _ 0 false rfl rfl rfl _).mono ?_
    rintro _ w3 ⟨rfl, b3⟩
    have b03 := btr b02 b3 b02.size
    go_wp2_with fail
    refine (asQ (.quo s) _ s true rfl rfl rfl _).mono ?_
    rintro _ w4 ⟨rfl, b4⟩
    have b04 := btr b03 b4 b03.size
    go_wp2_with fail
    refine (asK (.quo s) _ 3 rfl rfl _).mono ?_
    rintro _ w5 ⟨rfl, b5⟩
    have b05 := btr b04 b5 b04.size
    go_wp2_with fail
    refine (awake13 _ (ht.call b05) (hT.call b05)).mono ?_
    rintro _ w7 ⟨rfl, b7⟩
    have b07 := btr b05 b7 b05.size
    go_wp2_with fail
    go_ret
    exact ⟨rfl, b07⟩
  by_cases h4 : k = 4
  · subst h4
    have HV := Lib.hid (show (valT 4 s n).v = .iface 9 (.string s) from rfl)
    go_enter Tryd.func13, Tryd.ntmps13
    go_wp2_with fail
    refine (valAny 4 s n _ HV _).mono ?_
    rintro _ w1 ⟨rfl, b1⟩
    have b01 := b1
    go_wp2_with fail
    refine (asW (.str s) _ ⟨#[]⟩ false rfl rfl rfl _).mono ?_
    rintro _ w2 ⟨rfl, b2⟩
    have b02 := btr b01 b2 b01.size
    go_wp2_with fail
    refine (asN (.str s) _ 0 false rfl rfl rfl _).mono ?_
    rintro _ w3 ⟨rfl, b3⟩
    have b03 := btr b02 b3 b02.size
    go_wp2_with fail
    refine (asQ (.str s) _ ⟨#[]⟩ false rfl rfl rfl _).mono ?_
    rintro _ w4 ⟨rfl, b4⟩
    have b04 := btr b03 b4 b03.size
    go_wp2_with fail
    refine (asK (.str s) _ 0 rfl rfl _).mono ?_
    rintro _ w5 ⟨rfl, b5⟩
    have b05 := btr b04 b5 b04.size
    go_wp2_with fail
    refine (awake13 _ (ht.call b05) (hT.call b05)).mono ?_
    rintro _ w7 ⟨rfl, b7⟩
    have b07 := btr b05 b7 b05.size
    go_wp2_with fail
    go_ret
    exact ⟨rfl, b07⟩
  by_cases h5 : k = 5
  · subst h5
    have HV := Lib.hid (show (valT 5 s n).v = .iface 3 (.int .i64 n) from rfl)
    go_enter Tryd.func13, Tryd.ntmps13
    go_wp2_with fail
    refine (valAny 5 s n _ HV _).mono ?_
    rintro _ w1 ⟨rfl, b1⟩
    have b01 := b1
    go_wp2_with fail
    refine (asW (.int n) _ ⟨#[]⟩ false rfl rfl rfl _).mono ?_
    rintro _ w2 ⟨rfl, b2⟩
    have b02 := btr b01 b2 b01.size
    go_wp2_with fail
    refine (asN (.int n) _ 0 false rfl rfl rfl _).mono ?_
    rintro _ w3 ⟨rfl, b3⟩
    have b03 := btr b02 b3 b02.size
    go_wp2_with fail
    refine (asQ (.int n) _ ⟨#[]⟩ false rfl rfl rfl _).mono ?_
    rintro _ w4 ⟨rfl, b4⟩
    have b04 := btr b03 b4 b03.size
    go_wp2_with fail
    refine (asK (.int n) _ 0 rfl rfl _).mono ?_
    rintro _ w5 ⟨rfl, b5⟩
    have b05 := btr b04 b5 b04.size
    go_wp2_with fail
    refine (awake13 _ (ht.call b05) (hT.call b05)).mono ?_
    rintro _ w7 ⟨rfl, b7⟩
    have b07 := btr b05 b7 b05.size
    go_wp2_with fail
    go_ret
    exact ⟨rfl, b07⟩
  have hv : (valT k s n).v = .nilIface := by unfold valT; rw [if_neg h1, if_neg h2, if_neg h3, if_neg h4, if_neg h5]; rfl
  by_cases h6 : k < 1
  · have t6 : decide (k < 1) = true := decide_eq_true h6
    clear h1 h2 h3 h4 h5
    have HV := Lib.hid (show (valT k s n).v = .nilIface from hv)
    clear hv
    go_enter Tryd.func13, Tryd.ntmps13
    go_wp2_with fail
    refine (valAny k s n _ HV _).mono ?_
    rintro _ w1 ⟨rfl, b1⟩
    have b01 := b1
    go_wp2_with fail
    refine (asW (.none) _ ⟨#[]⟩ false rfl rfl rfl _).mono ?_
    rintro _ w2 ⟨rfl, b2⟩
    have b02 := btr b01 b2 b01.size
    go_wp2_with fail
    refine (asN (.none) _ 0 false rfl rfl rfl _).mono ?_
    rintro _ w3 ⟨rfl, b3⟩
    have b03 := btr b02 b3 b02.size
    go_wp2_with fail
    refine (asQ (.none) _ ⟨#[]⟩ false rfl rfl rfl _).mono ?_
    rintro _ w4 ⟨rfl, b4⟩
    have b04 := btr b03 b4 b03.size
    go_wp2_with fail
    refine (asK (.none) _ 0 rfl rfl _).mono ?_
    rintro _ w5 ⟨rfl, b5⟩
    have b05 := btr b04 b5 b04.size
    go_wp2_with fail
    refine (awake13 _ (ht.call b05) (hT.call b05)).mono ?_
    rintro _ w7 ⟨rfl, b7⟩
    have b07 := btr b05 b7 b05.size
    go_wp2_with fail
    go_ret
    exact ⟨rfl, b07⟩
  · have t6 : decide (k < 1) = false := decide_eq_false h6
    have t7 : decide (3 < k) = true := decide_eq_true (by omega)
    clear h1 h2 h3 h4 h5
    have HV := Lib.hid (show (valT k s n).v = .nilIface from hv)
    clear hv
    go_enter Tryd.func13, Tryd.ntmps13
    go_wp2_with fail
    refine (valAny k s n _ HV _).mono ?_
    rintro _ w1 ⟨rfl, b1⟩
    have b01 := b1
    go_wp2_with fail
    refine (asW (.none) _ ⟨#[]⟩ false rfl rfl rfl _).mono ?_
    rintro _ w2 ⟨rfl, b2⟩
    have b02 := btr b01 b2 b01.size
    go_wp2_with fail
    refine (asN (.none) _ 0 false rfl rfl rfl _).mono ?_
    rintro _ w3 ⟨rfl, b3⟩
    have b03 := btr b02 b3 b02.size
    go_wp2_with fail
    refine (asQ (.none) _ ⟨#[]⟩ false rfl rfl rfl _).mono ?_
    rintro _ w4 ⟨rfl, b4⟩
    have b04 := btr b03 b4 b03.size
    go_wp2_with fail
    refine (asK (.none) _ 0 rfl rfl _).mono ?_
    rintro _ w5 ⟨rfl, b5⟩
    have b05 := btr b04 b5 b04.size
    go_wp2_with fail
    refine (awake13 _ (ht.call b05) (hT.call b05)).mono ?_
    rintro _ w7 ⟨rfl, b7⟩
    have b07 := btr b05 b7 b05.size
    go_wp2_with fail
    go_ret
    exact ⟨rfl, b07⟩
end Go.Proofs.YtnhkpnohadbcdaaDoor
