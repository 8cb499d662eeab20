/- Walks of layer 1 (octet): numbers put as bytes. Conditions: sizes of what is handed in. -/
import Derived.Test.YthgjknmfghjioaaDoorProg
import Derived.WalkKit
import Derived.WalkSpells
import Derived.WalkLawsBesides
import Derived.Outline
import Derived.Deep.QuietTactic
import Derived.BigQuiet
import Derived.Handy
import Derived.Lib.Hide
import Derived.Test.YthgjknmfghjioaaDoorBase
namespace Go.Proofs.YthgjknmfghjioaaDoor
open Go.RowKit
theorem u8info : (Tryd.prog.info? 5).map (fun i => (i.zero, i.size, i.bytes)) = some (some (.int .u8 0), 1, 1) := by kernel_rfl
theorem i64_and_mask (m : Int) (k : Nat) (hk : k ≤ 62) : bits .and .i64 m ((2 ^ k - 1 : Nat) : Int) = m % (2 ^ k : Nat) := by
  have hp : 2 ^ k ≤ 2 ^ 62 := Nat.pow_le_pow_right (by omega) hk
  have hp1 : 1 ≤ 2 ^ k := Nat.one_le_two_pow
  have h62 : (2 : Nat) ^ 62 = 4611686018427387904 := by decide
  have hlt : 2 ^ k - 1 < 2 ^ 64 := by omega
  show IntKind.i64.wrap ((BitVec.ofInt 64 m &&& BitVec.ofInt 64 ((2 ^ k - 1 : Nat) : Int)).toNat : Int) = _
  rw [BitVec.toNat_and, BitVec.ofInt_natCast, BitVec.toNat_ofNat, Nat.mod_eq_of_lt hlt, Nat.and_two_pow_sub_one_eq_mod, BitVec.toNat_ofInt]
  have hm : ((m % ((2 ^ 64 : Nat) : Int)).toNat : Int) = m % ((2 ^ 64 : Nat) : Int) := Int.toNat_of_nonneg (Int.emod_nonneg _ (by decide))
  have hd : ((2 ^ k : Nat) : Int) ∣ ((2 ^ 64 : Nat) : Int) := by
    exact_mod_cast Nat.pow_dvd_pow 2 (by omega : k ≤ 64)
  have e1 : (((m % ((2 ^ 64 : Nat) : Int)).toNat % 2 ^ k : Nat) : Int) = m % ((2 ^ k : Nat) : Int) := by
    rw [Int.natCast_emod, hm, Int.emod_emod_of_dvd _ hd]
  rw [e1, IntKind.wrap_i64]
  have h0 : 0 ≤ m % ((2 ^ k : Nat) : Int) := Int.emod_nonneg _ (by omega)
  have h1 : m % ((2 ^ k : Nat) : Int) < ((2 ^ k : Nat) : Int) := Int.emod_lt_of_pos _ (by omega)
  omega
theorem and_ffff (m : Int) : bits .and .i64 m 65535 = m % 65536 := i64_and_mask m 16 (by omega)
theorem and_63 (m : Int) : bits .and .i64 m 63 = m % 64 := i64_and_mask m 6 (by omega)
theorem u16_wrap_mod (m : Int) : IntKind.u16.wrap (m % 65536) = m % 65536 := by rw [IntKind.wrap_u16]; omega
/-- One byte, laid in a block of its own. -/
theorem BS.one (w : World) (T : Nat) (e : Int) (h0 : 0 ≤ e) (h1 : e ≤ 255) : BS (w.alloc (.cells #[.int .u8 e] T)) (w.heap.size + 1) (some ⟨w.heap.size, 0, none⟩) 1 [ub e] := by
  refine ⟨rfl, rfl, fun _ => ⟨_, rfl, by simp, fun j u hu => ?_⟩⟩
  match j, hu with
  | 0, hu =>
    simp only [bv, List.map_cons, List.map_nil, List.getElem?_cons_zero, Option.some.injEq] at hu
    subst hu
    rw [ub_toNat h0 h1]
    exact (Blk.new w T #[.int .u8 e]).cell 0
section
variable {W0 W : World} {ops : Array Oper} {rest : List Oper} {o : Oper} {a : Act} {Q : Exit → Act → World → Prop}
/-- append(s, x...) onto bytes of the call's own. -/
theorem appB (s x : Operand) (hgd : o.guard = none) (ho : o.op = .call { callee := .builtin .append, args := #[s, x], argTypes := #[34, 34] })
    (base : Nat) (hb : Below base W0 W) (hB : base ≤ W.heap.size) (A : Option Addr) (n c : Nat) (l : List UInt8) (hs : a.eval s = .slice A n c) (hown : OB W 5 base A n c l)
    (B : Nat) (A' : Option Addr) (m c' : Nat) (l' : List UInt8) (hx : a.eval x = .slice A' m c') (hr : BS W B A' m l') (hlen : l.length + l'.length ≤ 140737488355328)
    (h : ∀ (A2 : Option Addr) (n2 c2 : Nat) (w' : World), OB w' 5 base A2 n2 c2 (l ++ l') → Below base W0 w' → base ≤ w'.heap.size → wpList Tryd.prog ops Q rest (a.put o.dst (.slice A2 n2 c2)) w') :
    wpList Tryd.prog ops Q (o :: rest) a W :=
  wpl_app hgd s x 34 ho 5 Tryd.underlying34 u8info base A n c l hs hown B A' m c' l' hx hr hlen hB fun A2 n2 c2 w' h1 h2 _ => h A2 n2 c2 w' h1 (hb.trans h2) (Nat.le_trans hB h2.size)
/-- append(s, v) of one byte, that lies in the block that was laid last. -/
theorem appB1 (s x : Operand) (hgd : o.guard = none) (ho : o.op = .call { callee := .builtin .append, args := #[s, x], argTypes := #[34, 34] })
    (base : Nat) (hb : Below base W0 W) (hB : base ≤ W.heap.size) (A : Option Addr) (n c : Nat) (l : List UInt8) (v : Int) (hs : a.eval s = .slice A n c) (hown : OB W 5 base A n c l)
    (hx : a.eval x = .slice (some ⟨W.heap.size, 0, none⟩) 1 1) (hv0 : 0 ≤ v) (hv1 : v ≤ 255) (hlen : l.length ≤ 140737488355327)
    (h : ∀ (A2 : Option Addr) (n2 c2 : Nat) (w' : World), OB w' 5 base A2 n2 c2 (l ++ [ub v]) → Below base W0 w' → base ≤ w'.heap.size → wpList Tryd.prog ops Q rest (a.put o.dst (.slice A2 n2 c2)) w') :
    wpList Tryd.prog ops Q (o :: rest) a (W.alloc (.cells #[.int .u8 v] 5)) :=
  appB s x hgd ho base (hb.alloc hB _) (by simp; omega) A n c l hs (hown.alloc _) _ _ 1 1 [ub v] hx (BS.one W 5 v hv0 hv1) (by simp; omega) h
end
set_option maxHeartbeats 2000000 in
theorem put16_any (A : Option Addr) (n c : Nat) (l : List UInt8) (m : Int) (w : World) (h : BS w w.heap.size A n l) (hl : l.length ≤ 140737488355320) (h0 : 0 ≤ m) (h1 : m < 65536) :
    Calls Tryd.prog 49 #[.slice A n c, .int .u16 m, .int .i64 2] w (RetB w 5 (l ++ [ub (m / 256), ub (m % 256)])) := by
  go_enter Tryd.func49, Tryd.ntmps49
  go_wp2_with (at_builtin; refine wpl_app rfl (.const (.slice none 0 0)) (.tmp 9) _ rfl 5 Tryd.underlying34 u8info w.heap.size none 0 0 [] rfl OB.nil_ w.heap.size A n c l rfl h (by simp; omega) (Nat.le_refl _) ?_; intro A0 n0 c0 w0 o0 b0 g0)
  rw [List.nil_append] at o0
  have s0 := b0.size
  refine wp_loop_rounds 3 ?_
  rw [rounds_succ]
  go_wp2_with (at_builtin; refine wpl_app rfl (.tmp 17) (.tmp 23) _ rfl 5 Tryd.underlying34 u8info w.heap.size A0 n0 c0 (l) (by rfl) (o0.alloc _) (w0.heap.size + 1) (some ⟨w0.heap.size, 0, none⟩) 1 1 [ub (m / 256)] (by rfl) (BS.one _ _ _ (by omega) (by omega)) (by simp; omega) (by simp; omega) ?_; intro A1 n1 c1 w1 o1 b1 g1)
  have t1 : Below w.heap.size w w1 := (b0.alloc (by omega) _).trans b1
  have s1 := t1.size
  rw [rounds_succ]
  go_wp2_with (at_builtin; refine wpl_app rfl (.tmp 17) (.tmp 23) _ rfl 5 Tryd.underlying34 u8info w.heap.size A1 n1 c1 (l ++ [ub (m / 256)]) (by rfl) (o1.alloc _) (w1.heap.size + 1) (some ⟨w1.heap.size, 0, none⟩) 1 1 [ub (m % 256)] (by rfl) (BS.one _ _ _ (by omega) (by omega)) (by simp; omega) (by simp; omega) ?_; intro A2 n2 c2 w2 o2 b2 g2)
  have t2 : Below w.heap.size w w2 := (t1.alloc (by omega) _).trans b2
  have s2 := t2.size
  rw [rounds_succ]
  go_wp2_with fail
  go_ret
  exact ⟨A2, n2, c2, rfl, by simpa using o2, t2⟩
set_option maxHeartbeats 2000000 in
theorem put32_any (A : Option Addr) (n c : Nat) (l : List UInt8) (m : Int) (w : World) (h : BS w w.heap.size A n l) (hl : l.length ≤ 140737488355320) (h0 : 0 ≤ m) (h1 : m < 4294967296) :
    Calls Tryd.prog 50 #[.slice A n c, .int .u32 m, .int .i64 4] w (RetB w 5 (l ++ [ub (m / 16777216), ub (m / 65536 % 256), ub (m / 256 % 256), ub (m % 256)])) := by
  go_enter Tryd.func50, Tryd.ntmps50
  go_wp2_with (at_builtin; refine wpl_app rfl (.const (.slice none 0 0)) (.tmp 9) _ rfl 5 Tryd.underlying34 u8info w.heap.size none 0 0 [] rfl OB.nil_ w.heap.size A n c l rfl h (by simp; omega) (Nat.le_refl _) ?_; intro A0 n0 c0 w0 o0 b0 g0)
  rw [List.nil_append] at o0
  have s0 := b0.size
  refine wp_loop_rounds 5 ?_
  rw [rounds_succ]
  go_wp2_with (at_builtin; refine wpl_app rfl (.tmp 17) (.tmp 23) _ rfl 5 Tryd.underlying34 u8info w.heap.size A0 n0 c0 (l) (by rfl) (o0.alloc _) (w0.heap.size + 1) (some ⟨w0.heap.size, 0, none⟩) 1 1 [ub (m / 16777216)] (by rfl) (BS.one _ _ _ (by omega) (by omega)) (by simp; omega) (by simp; omega) ?_; intro A1 n1 c1 w1 o1 b1 g1)
  have t1 : Below w.heap.size w w1 := (b0.alloc (by omega) _).trans b1
  have s1 := t1.size
  rw [rounds_succ]
  go_wp2_with (at_builtin; refine wpl_app rfl (.tmp 17) (.tmp 23) _ rfl 5 Tryd.underlying34 u8info w.heap.size A1 n1 c1 (l ++ [ub (m / 16777216)]) (by rfl) (o1.alloc _) (w1.heap.size + 1) (some ⟨w1.heap.size, 0, none⟩) 1 1 [ub (m / 65536 % 256)] (by rfl) (BS.one _ _ _ (by omega) (by omega)) (by simp; omega) (by simp; omega) ?_; intro A2 n2 c2 w2 o2 b2 g2)
  have t2 : Below w.heap.size w w2 := (t1.alloc (by omega) _).trans b2
  have s2 := t2.size
  rw [rounds_succ]
  go_wp2_with (at_builtin; refine wpl_app rfl (.tmp 17) (.tmp 23) _ rfl 5 Tryd.underlying34 u8info w.heap.size A2 n2 c2 (l ++ [ub (m / 16777216)] ++ [ub (m / 65536 % 256)]) (by rfl) (o2.alloc _) (w2.heap.size + 1) (some ⟨w2.heap.size, 0, none⟩) 1 1 [ub (m / 256 % 256)] (by rfl) (BS.one _ _ _ (by omega) (by omega)) (by simp; omega) (by simp; omega) ?_; intro A3 n3 c3 w3 o3 b3 g3)
  have t3 : Below w.heap.size w w3 := (t2.alloc (by omega) _).trans b3
  have s3 := t3.size
  rw [rounds_succ]
  go_wp2_with (at_builtin; refine wpl_app rfl (.tmp 17) (.tmp 23) _ rfl 5 Tryd.underlying34 u8info w.heap.size A3 n3 c3 (l ++ [ub (m / 16777216)] ++ [ub (m / 65536 % 256)] ++ [ub (m / 256 % 256)]) (by rfl) (o3.alloc _) (w3.heap.size + 1) (some ⟨w3.heap.size, 0, none⟩) 1 1 [ub (m % 256)] (by rfl) (BS.one _ _ _ (by omega) (by omega)) (by simp; omega) (by simp; omega) ?_; intro A4 n4 c4 w4 o4 b4 g4)
  have t4 : Below w.heap.size w w4 := (t3.alloc (by omega) _).trans b4
  have s4 := t4.size
  rw [rounds_succ]
  go_wp2_with fail
  go_ret
  exact ⟨A4, n4, c4, rfl, by simpa using o4, t4⟩
/-- octet.Put16. -/
def b16 (m : Int) : List UInt8 := [ub (m % 65536 / 256), ub (m % 256)]
def b32 (m : Int) : List UInt8 := [ub (m / 16777216), ub (m / 65536 % 256), ub (m / 256 % 256), ub (m % 256)]
theorem octetPut32 (A : Option Addr) (n c : Nat) (l : List UInt8) (m : Int) (w : World) (h : BS w w.heap.size A n l) (hl : l.length ≤ 140737488355320) (h0 : 0 ≤ m) (h1 : m < 4294967296) :
    Calls Tryd.prog 39 #[.slice A n c, .int .u32 m] w (RetB w 5 (l ++ b32 m)) := by
  go_enter Tryd.func39, Tryd.ntmps39
  go_wp2_with fail
  refine (put32_any A n c l m _ h hl h0 h1).mono ?_
  rintro _ w1 ⟨A1, n1, c1, rfl, o1, b1⟩
  go_wp2_with fail
  go_ret
  exact ⟨A1, n1, c1, rfl, o1, b1⟩
theorem octetPut16 (A : Option Addr) (n c : Nat) (l : List UInt8) (m : Int) (w : World) (h : BS w w.heap.size A n l) (hl : l.length ≤ 140737488355320) :
    Calls Tryd.prog 38 #[.slice A n c, .int .i64 m] w (RetB w 5 (l ++ b16 m)) := by
  go_enter Tryd.func38, Tryd.ntmps38
  go_wp2_with fail
  rw [and_ffff, u16_wrap_mod]
  refine (put16_any A n c l (m % 65536) _ h hl (by omega) (by omega)).mono ?_
  rintro _ w1 ⟨A1, n1, c1, rfl, o1, b1⟩
  go_wp2_with fail
  go_ret
  refine ⟨A1, n1, c1, rfl, ?_, b1⟩
  have e : m % 65536 % 256 = m % 256 := by omega
  rw [e] at o1
  exact o1
end Go.Proofs.YthgjknmfghjioaaDoor
