/- Walks of layer 13 (lex): of which kind a value is, and what it is as each. No conditions. -/
import Derived.Test.YtnhkpnohadbcdaaDoorProg
import Derived.WalkKit
import Derived.WalkSpells
import Derived.WalkLawsBesides
import Derived.Outline
import Derived.Deep.QuietTactic
import Derived.BigQuiet
import Derived.Handy
import Derived.Lib.Hide
import Derived.Test.YtnhkpnohadbcdaaDoorDeep
namespace Go.Proofs.YtnhkpnohadbcdaaDoor
open Go.RowKit
set_option linter.unusedSimpArgs false
set_option linter.unusedVariables false
/-- What a value of a line may be: a word, a number, a quoted text; a text, an int, nothing. -/
inductive Tk where
  | word (s : ByteArray)
  | num (n : Int)
  | quo (s : ByteArray)
  | str (s : ByteArray)
  | int (n : Int)
  | none
def Tk.v : Tk → Value
  | .word s => .iface 107 (.string s)
  | .num n => .iface 108 (.int .i64 n)
  | .quo s => .iface 109 (.string s)
  | .str s => .iface 9 (.string s)
  | .int n => .iface 3 (.int .i64 n)
  | .none => .nilIface
def Tk.kind : Tk → Int
  | .word _ => 1
  | .num _ => 2
  | .quo _ => 3
  | _ => 0
def Tk.asWord : Tk → ByteArray
  | .word s => s
  | _ => ⟨#[]⟩
def Tk.asNum : Tk → Int
  | .num n => n
  | _ => 0
def Tk.asQuo : Tk → ByteArray
  | .quo s => s
  | _ => ⟨#[]⟩
theorem taWW (s : ByteArray) (w : World) : (Instr.typeAssert (.iface 107 (.string s)) 20 107 true).run Tryd.prog w = .ok (.tuple #[(.string s), .bool true]) w := by kernel_rfl
theorem taWN (s : ByteArray) (w : World) : (Instr.typeAssert (.iface 107 (.string s)) 20 108 true).run Tryd.prog w = .ok (.tuple #[.int .i64 0, .bool false]) w := by kernel_rfl
theorem taWQ (s : ByteArray) (w : World) : (Instr.typeAssert (.iface 107 (.string s)) 20 109 true).run Tryd.prog w = .ok (.tuple #[.string ⟨#[]⟩, .bool false]) w := by kernel_rfl
theorem taNW (n : Int) (w : World) : (Instr.typeAssert (.iface 108 (.int .i64 n)) 20 107 true).run Tryd.prog w = .ok (.tuple #[.string ⟨#[]⟩, .bool false]) w := by kernel_rfl
theorem taNN (n : Int) (w : World) : (Instr.typeAssert (.iface 108 (.int .i64 n)) 20 108 true).run Tryd.prog w = .ok (.tuple #[(.int .i64 n), .bool true]) w := by kernel_rfl
theorem taNQ (n : Int) (w : World) : (Instr.typeAssert (.iface 108 (.int .i64 n)) 20 109 true).run Tryd.prog w = .ok (.tuple #[.string ⟨#[]⟩, .bool false]) w := by kernel_rfl
theorem taQW (s : ByteArray) (w : World) : (Instr.typeAssert (.iface 109 (.string s)) 20 107 true).run Tryd.prog w = .ok (.tuple #[.string ⟨#[]⟩, .bool false]) w := by kernel_rfl
theorem taQN (s : ByteArray) (w : World) : (Instr.typeAssert (.iface 109 (.string s)) 20 108 true).run Tryd.prog w = .ok (.tuple #[.int .i64 0, .bool false]) w := by kernel_rfl
theorem taQQ (s : ByteArray) (w : World) : (Instr.typeAssert (.iface 109 (.string s)) 20 109 true).run Tryd.prog w = .ok (.tuple #[(.string s), .bool true]) w := by kernel_rfl
theorem taSW (s : ByteArray) (w : World) : (Instr.typeAssert (.iface 9 (.string s)) 20 107 true).run Tryd.prog w = .ok (.tuple #[.string ⟨#[]⟩, .bool false]) w := by kernel_rfl
theorem taSN (s : ByteArray) (w : World) : (Instr.typeAssert (.iface 9 (.string s)) 20 108 true).run Tryd.prog w = .ok (.tuple #[.int .i64 0, .bool false]) w := by kernel_rfl
theorem taSQ (s : ByteArray) (w : World) : (Instr.typeAssert (.iface 9 (.string s)) 20 109 true).run Tryd.prog w = .ok (.tuple #[.string ⟨#[]⟩, .bool false]) w := by kernel_rfl
theorem taIW (n : Int) (w : World) : (Instr.typeAssert (.iface 3 (.int .i64 n)) 20 107 true).run Tryd.prog w = .ok (.tuple #[.string ⟨#[]⟩, .bool false]) w := by kernel_rfl
theorem taIN (n : Int) (w : World) : (Instr.typeAssert (.iface 3 (.int .i64 n)) 20 108 true).run Tryd.prog w = .ok (.tuple #[.int .i64 0, .bool false]) w := by kernel_rfl
theorem taIQ (n : Int) (w : World) : (Instr.typeAssert (.iface 3 (.int .i64 n)) 20 109 true).run Tryd.prog w = .ok (.tuple #[.string ⟨#[]⟩, .bool false]) w := by kernel_rfl
theorem ta0W (w : World) : (Instr.typeAssert .nilIface 20 107 true).run Tryd.prog w = .ok (.tuple #[.string ⟨#[]⟩, .bool false]) w := by kernel_rfl
theorem ta0N (w : World) : (Instr.typeAssert .nilIface 20 108 true).run Tryd.prog w = .ok (.tuple #[.int .i64 0, .bool false]) w := by kernel_rfl
theorem ta0Q (w : World) : (Instr.typeAssert .nilIface 20 109 true).run Tryd.prog w = .ok (.tuple #[.string ⟨#[]⟩, .bool false]) w := by kernel_rfl
theorem tm0 (s : ByteArray) (w : World) : (Instr.typeAssert (.iface 107 (.string s)) 20 107 false).run Tryd.prog w = .ok (.string s) w := by kernel_rfl
theorem tm1 (n : Int) (w : World) : (Instr.typeAssert (.iface 108 (.int .i64 n)) 20 108 false).run Tryd.prog w = .ok (.int .i64 n) w := by kernel_rfl
set_option maxHeartbeats 1000000 in
set_option maxRecDepth 100000 in
theorem lexKind (t : Tk) (w : World) : Calls Tryd.prog 69 #[t.v] w fun e w' => e = .returned (.int .i64 t.kind) ∧ Below w.heap.size w w' := by
  cases t <;> simp only [Tk.v, Tk.kind]
  all_goals
    have e0 := taWW
    have e1 := taWN
    have e2 := taWQ
    have e3 := taNW
    have e4 := taNN
    have e5 := taNQ
    have e6 := taQW
    have e7 := taQN
    have e8 := taQQ
    have e9 := taSW
    have e10 := taSN
    have e11 := taSQ
    have e12 := taIW
    have e13 := taIN
    have e14 := taIQ
    have e15 := ta0W
    have e16 := ta0N
    have e17 := ta0Q
    go_enter Tryd.func69, Tryd.ntmps69
    go_wp2
    go_ret
    exact ⟨rfl, Below.refl _ _⟩
set_option maxHeartbeats 1000000 in
set_option maxRecDepth 100000 in
theorem lexAsWord (t : Tk) (w : World) : Calls Tryd.prog 66 #[t.v] w fun e w' => e = .returned (.tuple #[.string t.asWord, .bool (t.kind == 1)]) ∧ Below w.heap.size w w' := by
  cases t <;> simp only [Tk.v, Tk.kind, Tk.asWord]
  all_goals
    have e0 := taWW
    have e1 := taWN
    have e2 := taWQ
    have e3 := taNW
    have e4 := taNN
    have e5 := taNQ
    have e6 := taQW
    have e7 := taQN
    have e8 := taQQ
    have e9 := taSW
    have e10 := taSN
    have e11 := taSQ
    have e12 := taIW
    have e13 := taIN
    have e14 := taIQ
    have e15 := ta0W
    have e16 := ta0N
    have e17 := ta0Q
    go_enter Tryd.func66, Tryd.ntmps66
    go_wp2
    go_ret2
    exact ⟨rfl, Below.refl _ _⟩
set_option maxHeartbeats 1000000 in
set_option maxRecDepth 100000 in
theorem lexAsNum (t : Tk) (w : World) : Calls Tryd.prog 67 #[t.v] w fun e w' => e = .returned (.tuple #[.int .i64 t.asNum, .bool (t.kind == 2)]) ∧ Below w.heap.size w w' := by
  cases t <;> simp only [Tk.v, Tk.kind, Tk.asNum]
  all_goals
    have e0 := taWW
    have e1 := taWN
    have e2 := taWQ
    have e3 := taNW
    have e4 := taNN
    have e5 := taNQ
    have e6 := taQW
    have e7 := taQN
    have e8 := taQQ
    have e9 := taSW
    have e10 := taSN
    have e11 := taSQ
    have e12 := taIW
    have e13 := taIN
    have e14 := taIQ
    have e15 := ta0W
    have e16 := ta0N
    have e17 := ta0Q
    go_enter Tryd.func67, Tryd.ntmps67
    go_wp2
    go_ret2
    exact ⟨rfl, Below.refl _ _⟩
set_option maxHeartbeats 1000000 in
set_option maxRecDepth 100000 in
theorem lexAsQuo (t : Tk) (w : World) : Calls Tryd.prog 68 #[t.v] w fun e w' => e = .returned (.tuple #[.string t.asQuo, .bool (t.kind == 3)]) ∧ Below w.heap.size w w' := by
  cases t <;> simp only [Tk.v, Tk.kind, Tk.asQuo]
  all_goals
    have e0 := taWW
    have e1 := taWN
    have e2 := taWQ
    have e3 := taNW
    have e4 := taNN
    have e5 := taNQ
    have e6 := taQW
    have e7 := taQN
    have e8 := taQQ
    have e9 := taSW
    have e10 := taSN
    have e11 := taSQ
    have e12 := taIW
    have e13 := taIN
    have e14 := taIQ
    have e15 := ta0W
    have e16 := ta0N
    have e17 := ta0Q
    go_enter Tryd.func68, Tryd.ntmps68
    go_wp2
    go_ret2
    exact ⟨rfl, Below.refl _ _⟩
set_option maxRecDepth 100000 in
theorem lexMustWord (s : ByteArray) (w : World) : Calls Tryd.prog 70 #[.iface 107 (.string s)] w fun e w' => e = .returned (.string s) ∧ Below w.heap.size w w' := by
  have e0 := tm0
  go_enter Tryd.func70, Tryd.ntmps70
  go_wp2
  go_ret
  exact ⟨rfl, Below.refl _ _⟩
set_option maxRecDepth 100000 in
theorem lexMustNum (n : Int) (w : World) : Calls Tryd.prog 71 #[.iface 108 (.int .i64 n)] w fun e w' => e = .returned (.int .i64 n) ∧ Below w.heap.size w w' := by
  have e0 := tm1
  go_enter Tryd.func71, Tryd.ntmps71
  go_wp2
  go_ret
  exact ⟨rfl, Below.refl _ _⟩
end Go.Proofs.YtnhkpnohadbcdaaDoor
