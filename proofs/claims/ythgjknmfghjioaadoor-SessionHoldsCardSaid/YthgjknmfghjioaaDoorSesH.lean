/- Walks of layer 23 (session): what a session tells of itself, what nil tells; a session that rises; the example. No conditions but the tables and where the session lies. -/
import Derived.Test.YthgjknmfghjioaaDoorProg
import Derived.WalkKit
import Derived.WalkSpells
import Derived.WalkLawsBesides
import Derived.Outline
import Derived.Deep.QuietTactic
import Derived.BigQuiet
import Derived.Handy
import Derived.Lib.Hide
import Derived.Deep.DeepCutAuto
import Derived.Deep.CutBlock
import Derived.Laws.Cover4
import Derived.OrdersHeld
import Derived.Deep.RegionHeld
import Derived.Test.YthgjknmfghjioaaDoorSesG
import Derived.Test.YthgjknmfghjioaaDoorOpnC
namespace Go.Proofs.YthgjknmfghjioaaDoor
open Go.RowKit
set_option linter.unusedSimpArgs false
set_option linter.unusedVariables false
section
variable {KS : SesK} {V : SesV} {g : Nat} {w : World}
theorem sesState (hS : Blk w g 70 (sesC KS V)) : Calls Tryd.prog 8 #[.pointer (some ⟨g, 0, none⟩)] w fun en w' => en = .returned (.int .i64 V.st) ∧ w = w' := by
  have s : w.cell? ⟨g, 10, none⟩ = some (.int .i64 V.st) := hS.cell 10
  go_enter Tryd.func8, Tryd.ntmps8
  go_wp2_with fail
  go_ret
  exact ⟨rfl, rfl⟩
theorem sesWide (hS : Blk w g 70 (sesC KS V)) : Calls Tryd.prog 12 #[.pointer (some ⟨g, 0, none⟩)] w fun en w' => en = .returned (.bool V.wd) ∧ w = w' := by
  have s : w.cell? ⟨g, 14, none⟩ = some (.bool V.wd) := hS.cell 14
  go_enter Tryd.func12, Tryd.ntmps12
  go_wp2_with fail
  go_ret
  exact ⟨rfl, rfl⟩
theorem sesId (hS : Blk w g 70 (sesC KS V)) : Calls Tryd.prog 13 #[.pointer (some ⟨g, 0, none⟩)] w fun en w' => en = .returned (.int .u32 V.id) ∧ w = w' := by
  have s : w.cell? ⟨g, 15, none⟩ = some (.int .u32 V.id) := hS.cell 15
  go_enter Tryd.func13, Tryd.ntmps13
  go_wp2_with fail
  go_ret
  exact ⟨rfl, rfl⟩
theorem sesHold (hS : Blk w g 70 (sesC KS V)) : Calls Tryd.prog 14 #[.pointer (some ⟨g, 0, none⟩)] w fun en w' => en = .returned (.int .i64 V.ho) ∧ w = w' := by
  have s : w.cell? ⟨g, 16, none⟩ = some (.int .i64 V.ho) := hS.cell 16
  go_enter Tryd.func14, Tryd.ntmps14
  go_wp2_with fail
  go_ret
  exact ⟨rfl, rfl⟩
theorem nilState : Calls Tryd.prog 8 #[.pointer none] w fun en w' => en = .returned (.int .i64 0) ∧ w = w' := by
  go_enter Tryd.func8, Tryd.ntmps8
  go_wp2_with fail
  go_ret
  exact ⟨rfl, rfl⟩
theorem nilWide : Calls Tryd.prog 12 #[.pointer none] w fun en w' => en = .returned (.bool false) ∧ w = w' := by
  go_enter Tryd.func12, Tryd.ntmps12
  go_wp2_with fail
  go_ret
  exact ⟨rfl, rfl⟩
theorem nilId : Calls Tryd.prog 13 #[.pointer none] w fun en w' => en = .returned (.int .u32 0) ∧ w = w' := by
  go_enter Tryd.func13, Tryd.ntmps13
  go_wp2_with fail
  go_ret
  exact ⟨rfl, rfl⟩
theorem nilHold : Calls Tryd.prog 14 #[.pointer none] w fun en w' => en = .returned (.int .i64 0) ∧ w = w' := by
  go_enter Tryd.func14, Tryd.ntmps14
  go_wp2_with fail
  go_ret
  exact ⟨rfl, rfl⟩
theorem nilTick : Calls Tryd.prog 6 #[.pointer none] w fun en w' => en = .returned (.slice none 0 0) ∧ w = w' := by
  go_enter Tryd.func6, Tryd.ntmps6
  go_wp2_with fail
  go_ret
  exact ⟨rfl, rfl⟩
theorem nilClock : Calls Tryd.prog 15 #[.pointer none] w fun en w' => en = .returned (.agg #[.int .i64 0, .int .i64 0, .int .i64 0]) ∧ Below w.heap.size w w' := by
  obtain ⟨W, hW, hX, b0⟩ := box1c w #[.int .i64 0, .int .i64 0, .int .i64 0] 58
  have HW := Lib.hid hW
  clear hW
  go_enter Tryd.func15, Tryd.ntmps15
  go_upto_region 1 with fail
  rw [HW.out]
  have x0 := hX.cell 0
  have x1 := hX.cell 1
  have x2 := hX.cell 2
  have f0 := hX.frozen 0
  have f1 := hX.frozen 1
  have f2 := hX.frozen 2
  go_wp2_with fail
  have X2 := ((hX.set_ 0 (.int .i64 0)).set_ 1 (.int .i64 0)).set_ 2 (.int .i64 0)
  simp only [List.setIfInBounds_toArray, List.set_cons_succ, List.set_cons_zero] at X2
  exact bodyPost_ret (clk_ret rfl _ _ w.heap.size _ _ _ rfl X2) rfl ⟨rfl, ((b0.setCell (p := ⟨w.heap.size, 0, none⟩) (Nat.le_refl _) _).setCell (p := ⟨w.heap.size, 1, none⟩) (Nat.le_refl _) _).setCell (p := ⟨w.heap.size, 2, none⟩) (Nat.le_refl _) _⟩
theorem sesClock (hS : Blk w g 70 (sesC KS V)) : Calls Tryd.prog 15 #[.pointer (some ⟨g, 0, none⟩)] w fun en w' => en = .returned (.agg #[.int .i64 V.t0, .int .i64 V.t1, .int .i64 V.t2]) ∧ Below w.heap.size w w' := by
  obtain ⟨W, hW, hX, b0⟩ := box1c w #[.int .i64 0, .int .i64 0, .int .i64 0] 58
  have HW := Lib.hid hW
  clear hW
  have hS0 := hS.below b0 hS.lt
  have hgl := hS.lt
  have s11 : W.cell? ⟨g, 11, none⟩ = some (.int .i64 V.t0) := hS0.cell 11
  have s12 : W.cell? ⟨g, 12, none⟩ = some (.int .i64 V.t1) := hS0.cell 12
  have s13 : W.cell? ⟨g, 13, none⟩ = some (.int .i64 V.t2) := hS0.cell 13
  go_enter Tryd.func15, Tryd.ntmps15
  go_upto_region 1 with fail
  rw [HW.out]
  have x0 := hX.cell 0
  have x1 := hX.cell 1
  have x2 := hX.cell 2
  have f0 := hX.frozen 0
  have f1 := hX.frozen 1
  have f2 := hX.frozen 2
  go_wp2_with fail
  have X2 := ((hX.set_ 0 (.int .i64 V.t0)).set_ 1 (.int .i64 V.t1)).set_ 2 (.int .i64 V.t2)
  simp only [List.setIfInBounds_toArray, List.set_cons_succ, List.set_cons_zero] at X2
  exact bodyPost_ret (clk_ret rfl _ _ w.heap.size _ _ _ rfl X2) rfl ⟨rfl, ((b0.setCell (p := ⟨w.heap.size, 0, none⟩) (Nat.le_refl _) _).setCell (p := ⟨w.heap.size, 1, none⟩) (Nat.le_refl _) _).setCell (p := ⟨w.heap.size, 2, none⟩) (Nat.le_refl _) _⟩
set_option maxRecDepth 100000 in
theorem nilDo (e : Int) : Calls Tryd.prog 10 #[.pointer none, .int .i64 e, .agg #[.int .i64 0, .int .i64 0, .slice none 0 0]] w fun en w' => en = .returned (.agg #[.int .i64 0, .int .i64 0, .int .i64 0, .slice none 0 0, .int .i64 0, .int .i64 0, .slice none 0 0, .slice none 0 0, .slice none 0 0, .int .i64 0, .slice none 0 0, .int .u32 0, .int .i64 0, .int .i64 0, .bool false, .bool false, .int .u32 0, .int .u32 0, .slice none 0 0, .slice none 0 0, .slice none 0 0, .bool false, .bool false, .bool false, .bool false, .bool false]) ∧ Below w.heap.size w w' := by
  obtain ⟨W, hW, hF, hR, b0⟩ := boxes2 w #[.int .i64 0, .int .i64 0, .slice none 0 0] #[.int .i64 0, .int .i64 0, .int .i64 0, .slice none 0 0, .int .i64 0, .int .i64 0, .slice none 0 0, .slice none 0 0, .slice none 0 0, .int .i64 0, .slice none 0 0, .int .u32 0, .int .i64 0, .int .i64 0, .bool false, .bool false, .int .u32 0, .int .u32 0, .slice none 0 0, .slice none 0 0, .slice none 0 0, .bool false, .bool false, .bool false, .bool false, .bool false] 36 48
  have HW := Lib.hid hW
  clear hW
  go_enter Tryd.func10, Tryd.ntmps10
  go_upto_region 1 with fail
  rw [HW.out]
  go_upto_region 2 with fail
  rename_i hk
  have HKK := Lib.hid hk
  clear hk
  refine wp_region_lit ?_
  refine wpList_plain rfl (fun K hK => ?_)
  go_simp
  refine hK _ _ ?_
  clear hK K
  refine wpList_store_row rfl 48 (.tmp 6) (.tmp 16) rfl (w.heap.size + 1) #[.int .i64 0, .int .i64 0, .int .i64 0, .slice none 0 0, .int .i64 0, .int .i64 0, .slice none 0 0, .slice none 0 0, .slice none 0 0, .int .i64 0, .slice none 0 0, .int .u32 0, .int .i64 0, .int .i64 0, .bool false, .bool false, .int .u32 0, .int .u32 0, .slice none 0 0, .slice none 0 0, .slice none 0 0, .bool false, .bool false, .bool false, .bool false, .bool false] (by rfl) (by rfl) 48 _ hR out_info rfl (by kernel_rfl) ?_
  go_simp
  refine HKK.out _ _ (wp_ret ?_)
  simp only [Exit.then]
  refine bodyPost_ret (out_ret rfl _ _ (w.heap.size + 1) #[.int .i64 0, .int .i64 0, .int .i64 0, .slice none 0 0, .int .i64 0, .int .i64 0, .slice none 0 0, .slice none 0 0, .slice none 0 0, .int .i64 0, .slice none 0 0, .int .u32 0, .int .i64 0, .int .i64 0, .bool false, .bool false, .int .u32 0, .int .u32 0, .slice none 0 0, .slice none 0 0, .slice none 0 0, .bool false, .bool false, .bool false, .bool false, .bool false] rfl rfl (hR.row _)) rfl ?_
  exact ⟨rfl, b0.grown (row_grown _ _ _) b0.size (fun k hk => by injection hk; omega)⟩
set_option maxRecDepth 100000 in
theorem nilMessage (e : Int) : Calls Tryd.prog 11 #[.pointer none, .int .i64 e, .slice none 0 0] w fun en w' => en = .returned (.agg #[.int .i64 0, .int .i64 0, .int .i64 0, .slice none 0 0, .int .i64 0, .int .i64 0, .slice none 0 0, .slice none 0 0, .slice none 0 0, .int .i64 0, .slice none 0 0, .int .u32 0, .int .i64 0, .int .i64 0, .bool false, .bool false, .int .u32 0, .int .u32 0, .slice none 0 0, .slice none 0 0, .slice none 0 0, .bool false, .bool false, .bool false, .bool false, .bool false]) ∧ Below w.heap.size w w' := by
  obtain ⟨W, hW, hR, b0⟩ := box1c w #[.int .i64 0, .int .i64 0, .int .i64 0, .slice none 0 0, .int .i64 0, .int .i64 0, .slice none 0 0, .slice none 0 0, .slice none 0 0, .int .i64 0, .slice none 0 0, .int .u32 0, .int .i64 0, .int .i64 0, .bool false, .bool false, .int .u32 0, .int .u32 0, .slice none 0 0, .slice none 0 0, .slice none 0 0, .bool false, .bool false, .bool false, .bool false, .bool false] 48
  have HW := Lib.hid hW
  clear hW
  go_enter Tryd.func11, Tryd.ntmps11
  go_upto_region 1 with fail
  rw [HW.out]
  go_upto_region 2 with fail
  rename_i hk
  have HKK := Lib.hid hk
  clear hk
  refine wp_region_lit ?_
  refine wpList_plain rfl (fun K hK => ?_)
  go_simp
  refine hK _ _ ?_
  clear hK K
  refine wpList_store_row rfl 48 (.tmp 6) (.tmp 9) rfl (w.heap.size) #[.int .i64 0, .int .i64 0, .int .i64 0, .slice none 0 0, .int .i64 0, .int .i64 0, .slice none 0 0, .slice none 0 0, .slice none 0 0, .int .i64 0, .slice none 0 0, .int .u32 0, .int .i64 0, .int .i64 0, .bool false, .bool false, .int .u32 0, .int .u32 0, .slice none 0 0, .slice none 0 0, .slice none 0 0, .bool false, .bool false, .bool false, .bool false, .bool false] (by rfl) (by rfl) 48 _ hR out_info rfl (by kernel_rfl) ?_
  go_simp
  refine HKK.out _ _ (wp_ret ?_)
  simp only [Exit.then]
  refine bodyPost_ret (out_ret rfl _ _ (w.heap.size) #[.int .i64 0, .int .i64 0, .int .i64 0, .slice none 0 0, .int .i64 0, .int .i64 0, .slice none 0 0, .slice none 0 0, .slice none 0 0, .int .i64 0, .slice none 0 0, .int .u32 0, .int .i64 0, .int .i64 0, .bool false, .bool false, .int .u32 0, .int .u32 0, .slice none 0 0, .slice none 0 0, .slice none 0 0, .bool false, .bool false, .bool false, .bool false, .bool false] rfl rfl (hR.row _)) rfl ?_
  exact ⟨rfl, b0.grown (row_grown _ _ _) b0.size (fun k hk => by injection hk; omega)⟩
end
theorem ofInt_u32S (a : Nat) (ha : a < 4294967296) : (BitVec.ofInt 32 (a : Int)).toNat = a := by
  rw [BitVec.ofInt_natCast, BitVec.toNat_ofNat]; exact Nat.mod_eq_of_lt (by omega)
theorem u32_orS (x v : Nat) (hx : x < 4294967296) (hv : v < 4294967296) : bits .or .u32 (x : Int) (v : Int) = ((x ||| v : Nat) : Int) := by
  have hz : x ||| v < 2 ^ 32 := Nat.or_lt_two_pow (by omega) (by omega)
  show IntKind.u32.wrap ((BitVec.ofInt 32 (x : Int) ||| BitVec.ofInt 32 (v : Int)).toNat : Int) = _
  rw [BitVec.toNat_or, ofInt_u32S x hx, ofInt_u32S v hv, IntKind.wrap_u32]
  omega
theorem u32_xorS (x v : Nat) (hx : x < 4294967296) (hv : v < 4294967296) : bits .xor .u32 (x : Int) (v : Int) = ((x ^^^ v : Nat) : Int) := by
  have hz : x ^^^ v < 2 ^ 32 := Nat.xor_lt_two_pow (by omega) (by omega)
  show IntKind.u32.wrap ((BitVec.ofInt 32 (x : Int) ^^^ BitVec.ofInt 32 (v : Int)).toNat : Int) = _
  rw [BitVec.toNat_xor, ofInt_u32S x hx, ofInt_u32S v hv, IntKind.wrap_u32]
  omega
/-- The other side's number. -/
def otherI (i : Nat) : Nat := (i ^^^ 1) ||| 2147483648
theorem otherI_lt {i : Nat} (h : i < 4294967296) : otherI i < 4294967296 := Nat.or_lt_two_pow (n := 32) (Nat.xor_lt_two_pow (n := 32) (by omega) (by omega)) (by omega)
theorem otherI_ne (i : Nat) : otherI i ≠ 0 ∧ otherI i ≠ i := by
  constructor
  · intro h
    have := congrArg (fun n => n.testBit 31) h
    simp only [otherI, Nat.testBit_or, Nat.zero_testBit] at this
    rw [show Nat.testBit 2147483648 31 = true from by decide, Bool.or_true] at this
    cases this
  · intro h
    have := congrArg (fun n => n.testBit 0) h
    simp only [otherI, Nat.testBit_or, Nat.testBit_xor] at this
    rw [show Nat.testBit 2147483648 0 = false from by decide, show Nat.testBit 1 0 = true from by decide] at this
    cases hb : i.testBit 0 <;> rw [hb] at this <;> cases this
theorem wide_mineS {a : Nat} (ha : a < 4294967296) : wideO [(65, b32 (a : Int))] = (a, true) := by
  have h : wideO [(65, b32 (a : Int))] = (numL (b32 (a : Int)), true) := wide_some (j := 0) (c := (65, b32 (a : Int))) rfl rfl (fun i m h => by omega)
  rw [h]
  have := numL_b32 (m := (a : Int)) (by omega) (by omega)
  rw [show numL (b32 (a : Int)) = a by omega]
theorem mine_took (KS : SesK) (V : SesV) (n : Int) (hn : n = 0 ∨ 3 ≤ n ∧ n ≤ 65535) (hpa : KS.pa < 4294967296) (hli : KS.li < 4294967296) (hst : V.st = 3) (O : Opn) (hO : O = ⟨4, mineA KS.pa, mineH n, otherI KS.li, [(65, b32 KS.pa)]⟩) :
    sesOpen KS V (putB O) = ({ V with wd := true, id := otherI KS.li, ho := holdO n (mineH KS.lh) }, 7, (0, 0, [])) := by
  have hm : mineH n = n := by unfold mineH; split <;> (try split) <;> omega
  have hok : putOk O = true := by
    have := mineO_ok { KS with la := KS.pa, lh := n, li := otherI KS.li }
    rw [hO]; exact this
  have hr : readO (putB O) = .inr O := readO_put hok (by rw [hO]; exact otherI_lt hli)
  have hne := otherI_ne KS.li
  have has : asO (mineA KS.pa) [(65, b32 KS.pa)] = KS.pa := by
    unfold asO
    rw [wide_mineS hpa]
    rfl
  have hc : checkO O.ver O.asn O.hold O.id O.caps KS.pa KS.li = (0, []) := by
    rw [hO]
    unfold checkO
    rw [if_neg (show ¬ (4 : Int) ≠ 4 by simp)]
    rw [if_neg (by rw [has]; simp)]
    rw [if_neg (by intro h; rcases h with h | h <;> simp only at h <;> omega)]
    rw [if_neg (by simp only [hm]; omega)]
  unfold sesOpen
  rw [if_pos hst, hr]
  simp only [hc]
  rw [if_pos trivial]
  unfold sesTook
  rw [hO]
  simp only [wide_mineS hpa, hm]
theorem boxrow (w : World) (C : Array Value) : ∃ w2, (w.alloc (.cells #[.int .i64 0, .int .i64 0, .int .i64 0, .slice none 0 0, .int .i64 0, .int .i64 0, .slice none 0 0, .slice none 0 0, .slice none 0 0, .int .i64 0, .slice none 0 0, .int .u32 0, .int .i64 0, .int .i64 0, .bool false, .bool false, .int .u32 0, .int .u32 0, .slice none 0 0, .slice none 0 0, .slice none 0 0, .bool false, .bool false, .bool false, .bool false, .bool false] 48)).setRow w.heap.size C = w2 ∧ Blk w2 w.heap.size 48 C ∧ Below w.heap.size w w2 := by
  refine ⟨_, rfl, (Blk.new w 48 #[.int .i64 0, .int .i64 0, .int .i64 0, .slice none 0 0, .int .i64 0, .int .i64 0, .slice none 0 0, .slice none 0 0, .slice none 0 0, .int .i64 0, .slice none 0 0, .int .u32 0, .int .i64 0, .int .i64 0, .bool false, .bool false, .int .u32 0, .int .u32 0, .slice none 0 0, .slice none 0 0, .slice none 0 0, .bool false, .bool false, .bool false, .bool false, .bool false]).row C, ?_⟩
  exact ((Below.refl w.heap.size w).alloc (Nat.le_refl _) _).grown (row_grown _ _ _) (by simp) (fun k hk => by injection hk; omega)
theorem sesNewP (KS : SesK) (hps : KS.ps = false) (w : World) :
    Calls Tryd.prog 17 #[.agg #[.int .u32 KS.la, .int .u32 KS.li, .int .u32 KS.lx, .int .i64 KS.lh], .agg #[.int .u32 KS.pa, .int .u32 KS.pd, .int .i64 KS.pl, .slice KS.Ai KS.ni KS.ci, .slice KS.Ao KS.no KS.co], .bool false] w fun en w' => ∃ q, en = .returned (.pointer (some ⟨q, 0, none⟩)) ∧ w.heap.size ≤ q ∧ Blk w' q 70 (sesC KS ses0) ∧ Below w.heap.size w w' := by
  have := sesNew KS w
  rw [hps] at this
  exact this
/-- What an event's doing hands back, where nothing of old is written but the session. -/
theorem RetDo.split {w1 w2 : World} {q : Nat} {K : SesK} {V : SesV} {O : OutV} {e : Ending} (h : RetDo w1 q K V O e w2) : ∃ (C : Array Value) (nt ns ct cs : Nat) (At As : Option Addr), e = .returned (.agg C) ∧ C.size = 26 ∧ C.all (·.oneCell') = true ∧ C[3]? = some (.slice At nt ct) ∧ C[7]? = some (.slice As ns cs) ∧ ns = O.sent.length ∧ C[22]? = some (.bool O.rise) ∧ C[23]? = some (.bool O.fall) ∧ C[24]? = some (.bool O.dial) ∧ C[25]? = some (.bool O.hang) ∧ Sm w1.heap.size [q] w1 w2 ∧ Blk w2 q 70 (sesC K V) := by
  obtain ⟨At, nt, ct, Af, nf, cf, As, ns, cs, rfl, o2, o3, o4, m2, hS⟩ := h
  exact ⟨_, nt, ns, ct, cs, At, As, rfl, rfl, by kernel_rfl, rfl, rfl, o3.1, rfl, rfl, rfl, rfl, m2, hS⟩
theorem refMineO (KS : SesK) (n : Int) (w : World) (ha : KS.pa < 4294967296) (hi : otherI KS.li < 4294967296) (O : Opn) (hO : Hid (O = ⟨4, mineA KS.pa, mineH n, otherI KS.li, [(65, b32 KS.pa)]⟩)) (M0 M1 : Int) (h0 : Hid (mineA KS.pa = M0)) (h1 : Hid (mineH n = M1)) :
    Calls Tryd.prog 19 #[.agg #[.int .u32 KS.pa, .int .u32 (otherI KS.li : Nat), .int .u32 0, .int .i64 n]] w fun e w' => ∃ (A : Option Addr) (c : Nat), e = .returned (.agg #[.int .i64 4, .int .i64 M0, .int .i64 M1, .int .u32 (otherI KS.li : Nat), .slice A 1 c]) ∧ DL rCap 2 w' (Lo w') A 1 [(65, b32 KS.pa)] ∧ Below w.heap.size w w' :=
  (refMine06 KS.pa (otherI KS.li) 0 n w ha).mono fun _ _ ⟨A, c, e1, e2, _, e4⟩ => ⟨A, c, by rw [e1, h0.out, h1.out], e2, e4⟩
theorem refPutO (KS : SesK) (n : Int) (A : Option Addr) (c : Nat) (w : World) (hd : DL rCap 2 w (Lo w) A 1 [(65, b32 KS.pa)]) (hi : otherI KS.li < 4294967296) (O : Opn) (hO : Hid (O = ⟨4, mineA KS.pa, mineH n, otherI KS.li, [(65, b32 KS.pa)]⟩)) (M0 M1 : Int) (h0 : Hid (mineA KS.pa = M0)) (h1 : Hid (mineH n = M1)) :
    Calls Tryd.prog 18 #[.agg #[.int .i64 4, .int .i64 M0, .int .i64 M1, .int .u32 (otherI KS.li : Nat), .slice A 1 c]] w fun en w' => ∃ (A : Option Addr) (n c : Nat), en = .returned (.tuple #[.slice A n c, .int .i64 0]) ∧ OB w' 5 w.heap.size A n c (putB O) ∧ Below w.heap.size w w' :=
  (refPut06 4 M0 M1 (otherI KS.li) hi A 1 c _ w hd (by omega)).mono fun e w' ⟨A2, n2, c2, e1, e2, e3⟩ => by
    have hok : putOk O = true := by
      have := mineO_ok { KS with la := KS.pa, lh := n, li := otherI KS.li }
      rw [hO.out]; exact this
    have e4 : (⟨4, M0, M1, otherI KS.li, [(65, b32 KS.pa)]⟩ : Opn) = O := by rw [hO.out, h0.out, h1.out]
    rw [e4, if_pos hok] at e1 e2
    exact ⟨A2, n2, c2, e1, e2, e3⟩
set_option maxHeartbeats 8000000 in
set_option maxRecDepth 100000 in
theorem risenC (KS : SesK) (hps : KS.ps = false) (n H0 : Int) (hn : Hid (n = 0 ∨ 3 ≤ n ∧ n ≤ 65535)) (hH : Hid (holdO n (mineH KS.lh) = H0 ∧ 0 ≤ H0 ∧ H0 ≤ 65535)) (hK : Hid (KS.la < 4294967296 ∧ KS.li < 4294967296 ∧ KS.pa < 4294967296)) (w : World) (ht : FsmTab w) (hlt : LeaTab w) :
    Calls Tryd.prog 5 #[.agg #[.int .u32 KS.la, .int .u32 KS.li, .int .u32 KS.lx, .int .i64 KS.lh], .agg #[.int .u32 KS.pa, .int .u32 KS.pd, .int .i64 KS.pl, .slice KS.Ai KS.ni KS.ci, .slice KS.Ao KS.no KS.co], .int .i64 n] w fun en w' => ∃ q, en = .returned (.tuple #[.pointer (some ⟨q, 0, none⟩), .bool true]) ∧ w.heap.size ≤ q ∧ Blk w' q 70 (sesC KS ⟨5, 0, H0, H0.tdiv 3, true, otherI KS.li, H0⟩) ∧ Below w.heap.size w w' := by
  obtain ⟨W, hW, hX, hY, b0⟩ := boxes2 w #[.int .u32 KS.la, .int .u32 KS.li, .int .u32 KS.lx, .int .i64 KS.lh] #[.int .u32 KS.pa, .int .u32 KS.pd, .int .i64 KS.pl, .slice KS.Ai KS.ni KS.ci, .slice KS.Ao KS.no KS.co] 24 27
  have HW := Lib.hid hW
  clear hW
  obtain ⟨x, hx⟩ : ∃ x, w.heap.size = x := ⟨_, rfl⟩
  rw [hx] at hX hY
  have HX := Lib.hid hx
  clear hx
  have hwx : w.heap.size ≤ x := Nat.le_of_eq HX.out
  have hK2 : Hid (KS.la < 4294967296 ∧ KS.li < 4294967296) := Lib.hid ⟨hK.out.1, hK.out.2.1⟩
  have HNEW := Lib.hid (fun z => sesNewP KS hps z)
  have HPS := Lib.hid hps
  clear hps
  go_enter Tryd.func5, Tryd.ntmps5
  go_upto_region 1 with fail
  rw [HW.out]
  rw [HX.out]
  have x0 : W.cell? ⟨x, 0, none⟩ = some (.int .u32 KS.la) := hX.cell 0
  have x1 : W.cell? ⟨x, 1, none⟩ = some (.int .u32 KS.li) := hX.cell 1
  have x2 : W.cell? ⟨x, 2, none⟩ = some (.int .u32 KS.lx) := hX.cell 2
  have x3 : W.cell? ⟨x, 3, none⟩ = some (.int .i64 KS.lh) := hX.cell 3
  have y0 : W.cell? ⟨x + 1, 0, none⟩ = some (.int .u32 KS.pa) := hY.cell 0
  have y1 : W.cell? ⟨x + 1, 1, none⟩ = some (.int .u32 KS.pd) := hY.cell 1
  have y2 : W.cell? ⟨x + 1, 2, none⟩ = some (.int .i64 KS.pl) := hY.cell 2
  have y3 : W.cell? ⟨x + 1, 3, none⟩ = some (.slice KS.Ai KS.ni KS.ci) := hY.cell 3
  have y4 : W.cell? ⟨x + 1, 4, none⟩ = some (.slice KS.Ao KS.no KS.co) := hY.cell 4
  go_wp2_with fail
  refine (HNEW.out W).mono ?_
  rintro _ w1 ⟨q, rfl, hq, S1, b1⟩
  clear x0 x1 x2 x3 y0 y1 y2 y3 y4
  have hYl := hY.lt
  have hqx : x + 1 < q := by omega
  have hwq : w.heap.size ≤ q := by omega
  have nq : ∀ k, k ≠ q → k ∉ [q] := fun k hk => by simpa using hk
  have c1 := btr b0 b1 b0.size
  have X1 := hX.below b1 hX.lt
  have Y1 := hY.below b1 hY.lt
  clear hX hY b1
  have ht1 := ht.below c1
  have hlt1 := hlt.call c1
  have HD1 := Lib.hid (show sesV KS.ps ses0 0 = ⟨1, 10, 0, 0, false, 0, 0⟩ ∧ (doOut KS ses0 0 (0, 0, [])).dial = true by rw [HPS.out]; refine ⟨by kernel_rfl, ?_⟩; show bitB (sesDo KS.ps 0 0) 1 = true; rw [HPS.out]; decide +kernel)
  go_wp2_with fail
  refine (sesStep KS ses0 0 0 0 none 0 0 [] q w1 S1 BS.none_ (by omega) (Lib.hid ⟨by decide, by decide⟩) hK2 ht1 hlt1).mono ?_
  rintro _ w2 hd
  obtain ⟨C1, nt1, ns1, ct1, cs1, At1, As1, rfl, hCs, hC1, hc3, hc7, hns, hc22, hc23, hc24, hc25, m1, S2⟩ := hd.split
  have hCi : (Tryd.prog.info? 48).map (·.size) = some C1.size := by rw [hCs]; exact out_info
  rename_i hk1
  refine hk1 _ _ ?_
  clear hk1
  refine wpList_plain rfl (fun K hK => ?_)
  go_simp
  refine hK _ _ ?_
  clear hK K
  refine wpList_store_row rfl 48 (.tmp 9) (.tmp 20) rfl w2.heap.size C1 (by rfl) (by rfl) 48 #[.int .i64 0, .int .i64 0, .int .i64 0, .slice none 0 0, .int .i64 0, .int .i64 0, .slice none 0 0, .slice none 0 0, .slice none 0 0, .int .i64 0, .slice none 0 0, .int .u32 0, .int .i64 0, .int .i64 0, .bool false, .bool false, .int .u32 0, .int .u32 0, .slice none 0 0, .slice none 0 0, .slice none 0 0, .bool false, .bool false, .bool false, .bool false, .bool false] (Blk.new w2 48 _) hCi hCs.symm hC1 ?_
  go_simp
  obtain ⟨w3, hw3, R1, b3⟩ := boxrow w2 C1
  rw [hw3]
  obtain ⟨r1, hr1⟩ : ∃ r, w2.heap.size = r := ⟨_, rfl⟩
  rw [hr1] at R1
  have HR1 := Lib.hid hr1
  have zc1 := c1.size
  have zm2 := m1.size
  have q3 : Sm w.heap.size [q] w w3 := (((Sm.of_below c1 (Nat.le_refl _)).trans (m1.less zc1)).below b3 (by omega))
  have c3 : Below w.heap.size w w3 := q3.to_below (Nat.le_refl _) (by intro k hk; simp at hk; omega)
  have S3 := S2.below b3 S2.lt
  have hrq1 : q < r1 := by have := S2.lt; omega
  rw [hr1]
  clear hr1 hw3 hd
  have X1_3 := (m1.blk X1 X1.lt (nq _ (by omega))).below b3 (by have := X1.lt; omega)
  have Y1_3 := (m1.blk Y1 Y1.lt (nq _ (by omega))).below b3 (by have := Y1.lt; omega)
  clear m1 b3
  rw [HD1.out.1] at S3
  have hcA : C1[24]? = some (.bool true) := by rw [hc24, HD1.out.2]
  clear hc3 hc7 hns hc22 hc23 hc24 hc25 S1 S2 hCs hC1 hCi
  have ht3 := ht.below c3
  have hlt3 := hlt.call c3
  have HD2 := Lib.hid (show sesV KS.ps ⟨1, 10, 0, 0, false, 0, 0⟩ 2 = ⟨3, 0, 240, 0, false, 0, 0⟩ ∧ (doOut KS ⟨1, 10, 0, 0, false, 0, 0⟩ 2 (0, 0, [])).sent.length = 37 by
    rw [HPS.out]
    refine ⟨by kernel_rfl, ?_⟩
    show (doSent KS (sesDo KS.ps 1 2) 2 (0, 0, [])).length = 37
    rw [HPS.out]
    have e : doSent KS (sesDo false 1 2) 2 (0, 0, []) = fpOut 1 (putB (mineO KS)) := by
      unfold doSent
      rw [if_pos (by decide +kernel)]
    rw [e]
    unfold fpOut
    rw [if_neg (by rw [putB_mine_len]; simp [leastOf])]
    simp only [List.length_append, List.length_replicate, List.length_cons, List.length_nil, putB_mine_len]
    rfl)
  go_wp2_with fail
  refine (sesStep KS ⟨1, 10, 0, 0, false, 0, 0⟩ 2 0 0 none 0 0 [] q w3 S3 BS.none_ (by omega) (Lib.hid ⟨by decide, by decide⟩) hK2 ht3 hlt3).mono ?_
  rintro _ w4 hd
  obtain ⟨C3, nt3, ns3, ct3, cs3, At3, As3, rfl, hCs, hC1, hc3, hc7, hns, hc22, hc23, hc24, hc25, m3, S4⟩ := hd.split
  have hCi : (Tryd.prog.info? 48).map (·.size) = some C3.size := by rw [hCs]; exact out_info
  rename_i hk1
  refine hk1 _ _ ?_
  clear hk1
  refine wpList_plain rfl (fun K hK => ?_)
  go_simp
  refine hK _ _ ?_
  clear hK K
  refine wpList_store_row rfl 48 (.tmp 10) (.tmp 23) rfl w4.heap.size C3 (by rfl) (by rfl) 48 #[.int .i64 0, .int .i64 0, .int .i64 0, .slice none 0 0, .int .i64 0, .int .i64 0, .slice none 0 0, .slice none 0 0, .slice none 0 0, .int .i64 0, .slice none 0 0, .int .u32 0, .int .i64 0, .int .i64 0, .bool false, .bool false, .int .u32 0, .int .u32 0, .slice none 0 0, .slice none 0 0, .slice none 0 0, .bool false, .bool false, .bool false, .bool false, .bool false] (Blk.new w4 48 _) hCi hCs.symm hC1 ?_
  go_simp
  obtain ⟨w5, hw5, R3, b5⟩ := boxrow w4 C3
  rw [hw5]
  obtain ⟨r3, hr3⟩ : ∃ r, w4.heap.size = r := ⟨_, rfl⟩
  rw [hr3] at R3
  have HR3 := Lib.hid hr3
  have zc3 := c3.size
  have zm4 := m3.size
  have q5 : Sm w.heap.size [q] w w5 := (((Sm.of_below c3 (Nat.le_refl _)).trans (m3.less zc3)).below b5 (by omega))
  have c5 : Below w.heap.size w w5 := q5.to_below (Nat.le_refl _) (by intro k hk; simp at hk; omega)
  have S5 := S4.below b5 S4.lt
  have hrq3 : q < r3 := by have := S4.lt; omega
  rw [hr3]
  clear hr3 hw5 hd
  have X1_5 := (m3.blk X1_3 X1_3.lt (nq _ (by omega))).below b5 (by have := X1_3.lt; omega)
  have Y1_5 := (m3.blk Y1_3 Y1_3.lt (nq _ (by omega))).below b5 (by have := Y1_3.lt; omega)
  have R1_5 := (m3.blk R1 R1.lt (nq _ (by omega))).below b5 (by have := R1.lt; omega)
  clear m3 b5
  rw [HD2.out.1] at S5
  rw [HD2.out.2] at hns
  subst hns
  have hcB := hc7
  clear hc3 hc7 hc22 hc23 hc24 hc25 S3 S4 hCs hC1 hCi ht3 hlt3 ht1 hlt1 HD1 HD2
  have ht5 := ht.below c5
  have hlt5 := hlt.call c5
  have y0 : w5.cell? ⟨x + 1, 0, none⟩ = some (.int .u32 KS.pa) := Y1_5.cell 0
  have x1 : w5.cell? ⟨x, 1, none⟩ = some (.int .u32 KS.li) := X1_5.cell 1
  have hoi := otherI_lt hK.out.2.1
  have hxor : bits .xor .u32 (KS.li : Int) 1 = ((KS.li ^^^ 1 : Nat) : Int) := u32_xorS KS.li 1 hK.out.2.1 (by omega)
  have hor : bits .or .u32 ((KS.li ^^^ 1 : Nat) : Int) 2147483648 = ((otherI KS.li : Nat) : Int) := u32_orS (KS.li ^^^ 1) 2147483648 (Nat.xor_lt_two_pow (n := 32) (by have := hK.out.2.1; omega) (by omega)) (by omega)
  obtain ⟨M0, hM0⟩ : ∃ M, mineA KS.pa = M := ⟨_, rfl⟩
  obtain ⟨M1, hM1⟩ : ∃ M, mineH n = M := ⟨_, rfl⟩
  obtain ⟨O, hO⟩ : ∃ O : Opn, O = ⟨4, mineA KS.pa, mineH n, otherI KS.li, [(65, b32 KS.pa)]⟩ := ⟨_, rfl⟩
  have HM0 := Lib.hid hM0
  have HM1 := Lib.hid hM1
  have HO := Lib.hid hO
  clear hM0 hM1 hO
  go_wp2_with fail
  refine (refMineO KS n w5 hK.out.2.2 hoi O HO M0 M1 HM0 HM1).mono ?_
  rintro _ w6 ⟨A6, k6, rfl, d6, b6⟩
  clear x1 y0 hxor hor
  go_wp2_with fail
  refine (refPutO KS n A6 k6 w6 d6 hoi O HO M0 M1 HM0 HM1).mono ?_
  rintro _ w7 ⟨A7, n7, k7, rfl, o7, b7⟩
  have b57 := btr b6 b7 b6.size
  have S7 := S5.below b57 S5.lt
  have c7 := btr c5 b57 c5.size
  have R1_7 := R1_5.below b57 R1_5.lt
  have R3_7 := R3.below b57 R3.lt
  have ht7 := ht5.below b57
  have hlt7 := hlt5.call b57
  clear d6 b6 b7 b57 S5 R1_5 R3 X1_5 Y1_5 X1_3 Y1_3 X1 Y1 ht5 hlt5
  have hn7 : n7 ≤ 100000 := by
    have h1 : (putB O).length = 18 := by rw [HO.out]; rfl
    have := o7.1
    omega
  obtain ⟨V3, hV3⟩ : ∃ V3 : SesV, V3 = ⟨3, 0, 240, 0, true, otherI KS.li, H0⟩ := ⟨_, rfl⟩
  obtain ⟨V4, hV4⟩ : ∃ V4 : SesV, V4 = ⟨4, 0, H0, H0.tdiv 3, true, otherI KS.li, H0⟩ := ⟨_, rfl⟩
  have ht3' : 0 ≤ H0.tdiv 3 ∧ H0.tdiv 3 ≤ 65535 := by
    have e : H0.tdiv 3 = H0 / 3 := by rw [Int.tdiv_eq_ediv_of_nonneg hH.out.2.1]
    have := hH.out.2
    omega
  have hp1 : pos H0 = H0 := if_neg (by have := hH.out.2.1; omega)
  have hp2 : pos (H0.tdiv 3) = H0.tdiv 3 := if_neg (by omega)
  have HV4 := Lib.hid (show SesOk V4 by
    rw [hV4]
    exact ⟨(show (0 : Int) ≤ 4 by decide), (show (4 : Int) < 6 by decide), hH.out.2.1, hH.out.2.2, (show (0 : Int) ≤ 0 by decide), (show (0 : Int) ≤ 65535 by decide), hH.out.2.1, hH.out.2.2, ht3'.1, ht3'.2, hoi⟩)
  have HV2 := Lib.hid (show SesOk ⟨3, 0, 240, 0, false, 0, 0⟩ from ⟨by decide, by decide, by decide, by decide, by decide, by decide, by decide, by decide, by decide, by decide, by decide⟩)
  have HMS := Lib.hid (show sesMsg KS ⟨3, 0, 240, 0, false, 0, 0⟩ 1 (putB O) = (V3, 7, (0, 0, [])) by
    unfold sesMsg
    rw [if_pos rfl, mine_took KS ⟨3, 0, 240, 0, false, 0, 0⟩ n hn.out hK.out.2.2 hK.out.2.1 rfl O HO.out, hH.out.1, hV3])
  have HMS2 := Lib.hid (show sesMsg KS V4 4 [] = (V4, 12, (0, 0, [])) from rfl)
  have HD3 := Lib.hid (show sesV KS.ps V3 7 = V4 ∧ (doOut KS V3 7 (0, 0, [])).sent.length = 19 by
    rw [HPS.out, hV3, hV4]
    have e : sesV false ⟨3, 0, 240, 0, true, otherI KS.li, H0⟩ 7 = ⟨4, 0, pos H0, pos (H0.tdiv 3), true, otherI KS.li, H0⟩ := by kernel_rfl
    rw [e, hp1, hp2]
    refine ⟨rfl, ?_⟩
    show (doSent KS (sesDo KS.ps 3 7) 7 (0, 0, [])).length = 19
    rw [HPS.out]
    have e : doSent KS (sesDo false 3 7) 7 (0, 0, []) = fpOut 4 [] := by
      unfold doSent
      rw [if_neg (by decide +kernel), if_pos (by decide +kernel)]
    rw [e]
    rfl)
  have HD4 := Lib.hid (show sesV KS.ps V4 12 = ⟨5, 0, H0, H0.tdiv 3, true, otherI KS.li, H0⟩ ∧ (doOut KS V4 12 (0, 0, [])).rise = true by
    rw [HPS.out, hV4]
    have e : sesV false ⟨4, 0, H0, H0.tdiv 3, true, otherI KS.li, H0⟩ 12 = ⟨5, 0, pos H0, H0.tdiv 3, true, otherI KS.li, H0⟩ := by kernel_rfl
    rw [e, hp1]
    refine ⟨rfl, ?_⟩
    show bitB (sesDo KS.ps 4 12) 32 = true
    rw [HPS.out]
    decide +kernel)
  clear hp1 hp2 ht3' hV3 hV4
  go_wp2_with fail
  refine (sesMessage KS ⟨3, 0, 240, 0, false, 0, 0⟩ 1 A7 n7 k7 (putB O) q w7 S7 o7.bs hn7 HV2 hK2 ht7 hlt7 (by decide) V3 7 (0, 0, []) HMS).mono ?_
  rintro _ w8 hd
  obtain ⟨C7, nt7, ns7, ct7, cs7, At7, As7, rfl, hCs, hC1, hc3, hc7, hns, hc22, hc23, hc24, hc25, m7, S8⟩ := hd.split
  have hCi : (Tryd.prog.info? 48).map (·.size) = some C7.size := by rw [hCs]; exact out_info
  rename_i hk1
  refine hk1 _ _ ?_
  clear hk1
  refine wpList_plain rfl (fun K hK => ?_)
  go_simp
  refine hK _ _ ?_
  clear hK K
  refine wpList_store_row rfl 48 (.tmp 13) (.tmp 39) rfl w8.heap.size C7 (by rfl) (by rfl) 48 #[.int .i64 0, .int .i64 0, .int .i64 0, .slice none 0 0, .int .i64 0, .int .i64 0, .slice none 0 0, .slice none 0 0, .slice none 0 0, .int .i64 0, .slice none 0 0, .int .u32 0, .int .i64 0, .int .i64 0, .bool false, .bool false, .int .u32 0, .int .u32 0, .slice none 0 0, .slice none 0 0, .slice none 0 0, .bool false, .bool false, .bool false, .bool false, .bool false] (Blk.new w8 48 _) hCi hCs.symm hC1 ?_
  go_simp
  obtain ⟨w9, hw9, R7, b9⟩ := boxrow w8 C7
  rw [hw9]
  obtain ⟨r7, hr7⟩ : ∃ r, w8.heap.size = r := ⟨_, rfl⟩
  rw [hr7] at R7
  have HR7 := Lib.hid hr7
  have zc7 := c7.size
  have zm8 := m7.size
  have q9 : Sm w.heap.size [q] w w9 := (((Sm.of_below c7 (Nat.le_refl _)).trans (m7.less zc7)).below b9 (by omega))
  have c9 : Below w.heap.size w w9 := q9.to_below (Nat.le_refl _) (by intro k hk; simp at hk; omega)
  have S9 := S8.below b9 S8.lt
  have hrq7 : q < r7 := by have := S8.lt; omega
  rw [hr7]
  clear hr7 hw9 hd
  have R1_7_9 := (m7.blk R1_7 R1_7.lt (nq _ (by omega))).below b9 (by have := R1_7.lt; omega)
  have R3_7_9 := (m7.blk R3_7 R3_7.lt (nq _ (by omega))).below b9 (by have := R3_7.lt; omega)
  clear m7 b9
  rw [HD3.out.1] at S9
  rw [HD3.out.2] at hns
  subst hns
  have hcC := hc7
  clear hc3 hc7 hc22 hc23 hc24 hc25 S7 S8 hCs hC1 hCi ht7 hlt7
  have ht9 := ht.below c9
  have hlt9 := hlt.call c9
  go_wp2_with fail
  refine (sesMessage KS V4 4 none 0 0 [] q w9 S9 BS.none_ (by omega) HV4 hK2 ht9 hlt9 (by decide) V4 12 (0, 0, []) HMS2).mono ?_
  rintro _ w10 hd
  obtain ⟨C9, nt9, ns9, ct9, cs9, At9, As9, rfl, hCs, hC1, hc3, hc7, hns, hc22, hc23, hc24, hc25, m9, S10⟩ := hd.split
  have hCi : (Tryd.prog.info? 48).map (·.size) = some C9.size := by rw [hCs]; exact out_info
  rename_i hk1
  refine hk1 _ _ ?_
  clear hk1
  refine wpList_plain rfl (fun K hK => ?_)
  go_simp
  refine hK _ _ ?_
  clear hK K
  refine wpList_store_row rfl 48 (.tmp 14) (.tmp 41) rfl w10.heap.size C9 (by rfl) (by rfl) 48 #[.int .i64 0, .int .i64 0, .int .i64 0, .slice none 0 0, .int .i64 0, .int .i64 0, .slice none 0 0, .slice none 0 0, .slice none 0 0, .int .i64 0, .slice none 0 0, .int .u32 0, .int .i64 0, .int .i64 0, .bool false, .bool false, .int .u32 0, .int .u32 0, .slice none 0 0, .slice none 0 0, .slice none 0 0, .bool false, .bool false, .bool false, .bool false, .bool false] (Blk.new w10 48 _) hCi hCs.symm hC1 ?_
  go_simp
  obtain ⟨w11, hw11, R9, b11⟩ := boxrow w10 C9
  rw [hw11]
  obtain ⟨r9, hr9⟩ : ∃ r, w10.heap.size = r := ⟨_, rfl⟩
  rw [hr9] at R9
  have HR9 := Lib.hid hr9
  have zc9 := c9.size
  have zm10 := m9.size
  have q11 : Sm w.heap.size [q] w w11 := (((Sm.of_below c9 (Nat.le_refl _)).trans (m9.less zc9)).below b11 (by omega))
  have c11 : Below w.heap.size w w11 := q11.to_below (Nat.le_refl _) (by intro k hk; simp at hk; omega)
  have S11 := S10.below b11 S10.lt
  have hrq9 : q < r9 := by have := S10.lt; omega
  rw [hr9]
  clear hr9 hw11 hd
  have R1_7_11 := (m9.blk R1_7_9 R1_7_9.lt (nq _ (by omega))).below b11 (by have := R1_7_9.lt; omega)
  have R3_7_11 := (m9.blk R3_7_9 R3_7_9.lt (nq _ (by omega))).below b11 (by have := R3_7_9.lt; omega)
  have R7_11 := (m9.blk R7 R7.lt (nq _ (by omega))).below b11 (by have := R7.lt; omega)
  clear m9 b11
  rw [HD4.out.1] at S11
  have hcD : C9[22]? = some (.bool true) := by rw [hc22, HD4.out.2]
  clear hc3 hc7 hns hc22 hc23 hc24 hc25 S9 S10 hCs hC1 hCi ht9 hlt9
  go_upto_region 7 with fail
  rename_i hk
  have HK7 := Lib.hid hk
  clear hk
  obtain ⟨wd, hwd⟩ : ∃ y, w11.drew = y := ⟨_, rfl⟩
  have a1 : wd.cell? ⟨r1, 24, none⟩ = some (.bool true) := by rw [← hwd]; exact (R1_7_11.cell 24).trans hcA
  have a2 : wd.cell? ⟨r3, 7, none⟩ = some (.slice As3 37 cs3) := by rw [← hwd]; exact (R3_7_11.cell 7).trans hcB
  have a3 : wd.cell? ⟨r7, 7, none⟩ = some (.slice As7 19 cs7) := by rw [← hwd]; exact (R7_11.cell 7).trans hcC
  have a4 : wd.cell? ⟨r9, 22, none⟩ = some (.bool true) := by rw [← hwd]; exact (R9.cell 22).trans hcD
  have HWD := Lib.hid hwd
  clear hwd
  refine wp_region_held_drew (S := (fun w' => w'.cell? ⟨r1, 24, none⟩ = some (.bool true) ∧ w'.cell? ⟨r3, 7, none⟩ = some (.slice As3 37 cs3) ∧ w'.cell? ⟨r7, 7, none⟩ = some (.slice As7 19 cs7) ∧ w'.cell? ⟨r9, 22, none⟩ = some (.bool true))) (by kernel_rfl) ?_ (fun hHeld => ?_)
  · rw [HWD.out]; exact ⟨a1, a2, a3, a4⟩
  rw [HWD.out]
  rw [HWD.out] at hHeld
  refine wpAnyH_take (i := 0) (v := ?m1_v0) rfl (by kernel_rfl) (by kernel_rfl) (by kernel_rfl) (by intro _ _ _ h; exact h) (Or.inl ⟨by rfl, ?m1_hy0⟩) (by assumption) ?m1_rest0
  case m1_hy0 => (intro w hSw; (try dsimp only at hSw); obtain ⟨h1, h2, h3, h4⟩ := hSw; go_simp; try with_reducible rfl)
  try simp only [Act.put, List.getElem_toArray, List.getElem_cons_succ, List.getElem_cons_zero, List.setIfInBounds_toArray, List.set_cons_zero, List.set_cons_succ]
  refine wpAnyH_take (i := 1) (v := ?m2_v1) rfl (by kernel_rfl) (by kernel_rfl) (by kernel_rfl) (by intro _ _ _ h; exact h) (Or.inl ⟨by rfl, ?m2_hy1⟩) (by assumption) ?m2_rest1
  case m2_hy1 => (intro w hSw; (try dsimp only at hSw); obtain ⟨h1, h2, h3, h4⟩ := hSw; go_simp; try with_reducible rfl)
  try simp only [Act.put, List.getElem_toArray, List.getElem_cons_succ, List.getElem_cons_zero, List.setIfInBounds_toArray, List.set_cons_zero, List.set_cons_succ]
  refine wpAnyH_take (i := 2) (v := ?m3_v2) rfl (by kernel_rfl) (by kernel_rfl) (by kernel_rfl) (by intro _ _ _ h; exact h) (Or.inl ⟨by rfl, ?m3_hy2⟩) (by assumption) ?m3_rest2
  case m3_hy2 => (intro w hSw; (try dsimp only at hSw); obtain ⟨h1, h2, h3, h4⟩ := hSw; go_simp; try with_reducible rfl)
  try simp only [Act.put, List.getElem_toArray, List.getElem_cons_succ, List.getElem_cons_zero, List.setIfInBounds_toArray, List.set_cons_zero, List.set_cons_succ]
  refine wpAnyH_take (i := 3) (v := ?m4_v3) rfl (by kernel_rfl) (by kernel_rfl) (by kernel_rfl) (by intro _ _ _ h; exact h) (Or.inl ⟨by rfl, ?m4_hy3⟩) (by assumption) ?m4_rest3
  case m4_hy3 => (intro w hSw; (try dsimp only at hSw); obtain ⟨h1, h2, h3, h4⟩ := hSw; go_simp; try with_reducible rfl)
  try simp only [Act.put, List.getElem_toArray, List.getElem_cons_succ, List.getElem_cons_zero, List.setIfInBounds_toArray, List.set_cons_zero, List.set_cons_succ]
  refine wpAnyH_take (i := 4) (v := ?m5_v4) rfl (by kernel_rfl) (by kernel_rfl) (by kernel_rfl) (by intro _ _ _ h; exact h) (Or.inl ⟨by rfl, ?m5_hy4⟩) (by assumption) ?m5_rest4
  case m5_hy4 => (intro w hSw; (try dsimp only at hSw); obtain ⟨h1, h2, h3, h4⟩ := hSw; go_simp; try with_reducible rfl)
  try simp only [Act.put, List.getElem_toArray, List.getElem_cons_succ, List.getElem_cons_zero, List.setIfInBounds_toArray, List.set_cons_zero, List.set_cons_succ]
  refine wpAnyH_take (i := 5) (v := ?m6_v5) rfl (by kernel_rfl) (by kernel_rfl) (by kernel_rfl) (by intro _ _ _ h; exact h) (Or.inl ⟨by rfl, ?m6_hy5⟩) (by assumption) ?m6_rest5
  case m6_hy5 => (intro w hSw; (try dsimp only at hSw); obtain ⟨h1, h2, h3, h4⟩ := hSw; go_simp; try with_reducible rfl)
  try simp only [Act.put, List.getElem_toArray, List.getElem_cons_succ, List.getElem_cons_zero, List.setIfInBounds_toArray, List.set_cons_zero, List.set_cons_succ]
  refine wpAnyH_take (i := 6) (v := ?m7_v6) rfl (by kernel_rfl) (by kernel_rfl) (by kernel_rfl) (by intro _ _ _ h; exact h) (Or.inl ⟨by rfl, ?m7_hy6⟩) (by assumption) ?m7_rest6
  case m7_hy6 => (intro w hSw; (try dsimp only at hSw); obtain ⟨h1, h2, h3, h4⟩ := hSw; go_simp; try with_reducible rfl)
  try simp only [Act.put, List.getElem_toArray, List.getElem_cons_succ, List.getElem_cons_zero, List.setIfInBounds_toArray, List.set_cons_zero, List.set_cons_succ]
  refine wpAnyH_take (i := 7) (v := ?m8_v7) rfl (by kernel_rfl) (by kernel_rfl) (by kernel_rfl) (by intro _ _ _ h; exact h) (Or.inl ⟨by rfl, ?m8_hy7⟩) (by assumption) ?m8_rest7
  case m8_hy7 => (intro w hSw; (try dsimp only at hSw); obtain ⟨h1, h2, h3, h4⟩ := hSw; go_simp; try with_reducible rfl)
  try simp only [Act.put, List.getElem_toArray, List.getElem_cons_succ, List.getElem_cons_zero, List.setIfInBounds_toArray, List.set_cons_zero, List.set_cons_succ]
  refine wpAnyH_take (i := 8) (v := ?m9_v8) rfl (by kernel_rfl) (by kernel_rfl) (by kernel_rfl) (by intro _ _ _ h; exact h) (Or.inl ⟨by rfl, ?m9_hy8⟩) (by assumption) ?m9_rest8
  case m9_hy8 => (intro w hSw; (try dsimp only at hSw); obtain ⟨h1, h2, h3, h4⟩ := hSw; go_simp; try with_reducible rfl)
  try simp only [Act.put, List.getElem_toArray, List.getElem_cons_succ, List.getElem_cons_zero, List.setIfInBounds_toArray, List.set_cons_zero, List.set_cons_succ]
  refine wpAnyH_take (i := 9) (v := ?m10_v9) rfl (by kernel_rfl) (by kernel_rfl) (by kernel_rfl) (by intro _ _ _ h; exact h) (Or.inl ⟨by rfl, ?m10_hy9⟩) (by assumption) ?m10_rest9
  case m10_hy9 => (intro w hSw; (try dsimp only at hSw); obtain ⟨h1, h2, h3, h4⟩ := hSw; go_simp; try with_reducible rfl)
  try simp only [Act.put, List.getElem_toArray, List.getElem_cons_succ, List.getElem_cons_zero, List.setIfInBounds_toArray, List.set_cons_zero, List.set_cons_succ]
  refine wpAnyH_take (i := 10) (v := ?m11_v10) rfl (by kernel_rfl) (by kernel_rfl) (by kernel_rfl) (by intro _ _ _ h; exact h) (Or.inl ⟨by rfl, ?m11_hy10⟩) (by assumption) ?m11_rest10
  case m11_hy10 => (intro w hSw; (try dsimp only at hSw); obtain ⟨h1, h2, h3, h4⟩ := hSw; go_simp; try with_reducible rfl)
  try simp only [Act.put, List.getElem_toArray, List.getElem_cons_succ, List.getElem_cons_zero, List.setIfInBounds_toArray, List.set_cons_zero, List.set_cons_succ]
  refine wpAnyH_take (i := 11) (v := ?m12_v11) rfl (by kernel_rfl) (by kernel_rfl) (by kernel_rfl) (by intro _ _ _ h; exact h) (Or.inl ⟨by rfl, ?m12_hy11⟩) (by assumption) ?m12_rest11
  case m12_hy11 => (intro w hSw; (try dsimp only at hSw); obtain ⟨h1, h2, h3, h4⟩ := hSw; go_simp; try with_reducible rfl)
  try simp only [Act.put, List.getElem_toArray, List.getElem_cons_succ, List.getElem_cons_zero, List.setIfInBounds_toArray, List.set_cons_zero, List.set_cons_succ]
  refine wpAnyH_take (i := 12) (v := ?m13_v12) rfl (by kernel_rfl) (by kernel_rfl) (by kernel_rfl) (by intro _ _ _ h; exact h) (Or.inl ⟨by rfl, ?m13_hy12⟩) (by assumption) ?m13_rest12
  case m13_hy12 => (intro w hSw; (try dsimp only at hSw); obtain ⟨h1, h2, h3, h4⟩ := hSw; go_simp; try with_reducible rfl)
  try simp only [Act.put, List.getElem_toArray, List.getElem_cons_succ, List.getElem_cons_zero, List.setIfInBounds_toArray, List.set_cons_zero, List.set_cons_succ]
  refine wpAnyH_take (i := 13) (v := ?m14_v13) rfl (by kernel_rfl) (by kernel_rfl) (by kernel_rfl) (by intro _ _ _ h; exact h) (Or.inl ⟨by rfl, ?m14_hy13⟩) (by assumption) ?m14_rest13
  case m14_hy13 => (intro w hSw; (try dsimp only at hSw); obtain ⟨h1, h2, h3, h4⟩ := hSw; go_simp; try with_reducible rfl)
  try simp only [Act.put, List.getElem_toArray, List.getElem_cons_succ, List.getElem_cons_zero, List.setIfInBounds_toArray, List.set_cons_zero, List.set_cons_succ]
  refine wpAnyH_take (i := 14) (v := ?m15_v14) rfl (by kernel_rfl) (by kernel_rfl) (by kernel_rfl) (by intro _ _ _ h; exact h) (Or.inl ⟨by rfl, ?m15_hy14⟩) (by assumption) ?m15_rest14
  case m15_hy14 => (intro w hSw; (try dsimp only at hSw); obtain ⟨h1, h2, h3, h4⟩ := hSw; go_simp; try with_reducible rfl)
  try simp only [Act.put, List.getElem_toArray, List.getElem_cons_succ, List.getElem_cons_zero, List.setIfInBounds_toArray, List.set_cons_zero, List.set_cons_succ]
  refine wpAnyH_take (i := 15) (v := ?m16_v15) rfl (by kernel_rfl) (by kernel_rfl) (by kernel_rfl) (by intro _ _ _ h; exact h) (Or.inl ⟨by rfl, ?m16_hy15⟩) (by assumption) ?m16_rest15
  case m16_hy15 => (intro w hSw; (try dsimp only at hSw); obtain ⟨h1, h2, h3, h4⟩ := hSw; go_simp; try with_reducible rfl)
  try simp only [Act.put, List.getElem_toArray, List.getElem_cons_succ, List.getElem_cons_zero, List.setIfInBounds_toArray, List.set_cons_zero, List.set_cons_succ]
  refine wpAnyH_take (i := 16) (v := ?m17_v16) rfl (by kernel_rfl) (by kernel_rfl) (by kernel_rfl) (by intro _ _ _ h; exact h) (Or.inl ⟨by rfl, ?m17_hy16⟩) (by assumption) ?m17_rest16
  case m17_hy16 => (intro w hSw; (try dsimp only at hSw); obtain ⟨h1, h2, h3, h4⟩ := hSw; go_simp; try with_reducible rfl)
  try simp only [Act.put, List.getElem_toArray, List.getElem_cons_succ, List.getElem_cons_zero, List.setIfInBounds_toArray, List.set_cons_zero, List.set_cons_succ]
  refine wpAnyH_take (i := 17) (v := ?m18_v17) rfl (by kernel_rfl) (by kernel_rfl) (by kernel_rfl) (by intro _ _ _ h; exact h) (Or.inl ⟨by rfl, ?m18_hy17⟩) (by assumption) ?m18_rest17
  case m18_hy17 => (intro w hSw; (try dsimp only at hSw); obtain ⟨h1, h2, h3, h4⟩ := hSw; go_simp; try with_reducible rfl)
  try simp only [Act.put, List.getElem_toArray, List.getElem_cons_succ, List.getElem_cons_zero, List.setIfInBounds_toArray, List.set_cons_zero, List.set_cons_succ]
  refine wpAnyH_take (i := 18) (v := ?m19_v18) rfl (by kernel_rfl) (by kernel_rfl) (by kernel_rfl) (by intro _ _ _ h; exact h) (Or.inl ⟨by rfl, ?m19_hy18⟩) (by assumption) ?m19_rest18
  case m19_hy18 => (intro w hSw; (try dsimp only at hSw); obtain ⟨h1, h2, h3, h4⟩ := hSw; go_simp; try with_reducible rfl)
  try simp only [Act.put, List.getElem_toArray, List.getElem_cons_succ, List.getElem_cons_zero, List.setIfInBounds_toArray, List.set_cons_zero, List.set_cons_succ]
  refine wpAnyH_ready (rs := [19]) (by kernel_rfl) (by simp) ?_
  refine AllReadyH.cons rfl (fun K hK => ?_) AllReadyH.nil
  go_simp
  go_wp2_with (fail)
  refine hK.out _ _ ?_ (fun hHeld => ?_)
  · try dsimp only
    exact ⟨a1, a2, a3, a4⟩
  clear hK K
  refine wpAnyH_ready (rs := [20]) (by kernel_rfl) (by simp) ?_
  refine AllReadyH.cons rfl (fun K hK => ?_) AllReadyH.nil
  go_simp
  go_wp2_with (fail)
  refine hK.out _ _ ?_ (fun hHeld => ?_)
  · try dsimp only
    exact ⟨a1, a2, a3, a4⟩
  clear hK K
  refine wpAnyH_done (by kernel_rfl) ?_ _
  refine HK7.out _ _ ?_
  go_wp2_with fail
  go_ret2
  exact ⟨q, rfl, hwq, by rw [← HWD.out]; exact S11.drew, by rw [← HWD.out]; exact c11.drew⟩
def exK : SesK := ⟨1, 7, 0, 90, 2, 0, 0, none, 0, 0, none, 0, 0, false⟩
theorem risenEx (w : World) (ht : FsmTab w) (hlt : LeaTab w) : Calls Tryd.prog 5 #[.agg #[.int .u32 1, .int .u32 7, .int .u32 0, .int .i64 90], .agg #[.int .u32 2, .int .u32 0, .int .i64 0, .slice none 0 0, .slice none 0 0], .int .i64 30] w fun en w' => ∃ q, en = .returned (.tuple #[.pointer (some ⟨q, 0, none⟩), .bool true]) ∧ w.heap.size ≤ q ∧ Blk w' q 70 (sesC exK ⟨5, 0, 30, (30 : Int).tdiv 3, true, otherI 7, 30⟩) ∧ Below w.heap.size w w' :=
  risenC exK rfl 30 30 (Lib.hid (.inr ⟨by decide, by decide⟩)) (Lib.hid ⟨by decide, by decide, by decide⟩) (Lib.hid ⟨by decide, by decide, by decide⟩) w ht hlt
theorem fsmName5 (w : World) : Calls Tryd.prog 22 #[.int .i64 5] w fun en w' => en = .returned (.string ⟨#[101, 115, 116, 97, 98, 108, 105, 115, 104, 101, 100]⟩) ∧ Below w.heap.size w w' := fsmName_any 5 w
set_option maxHeartbeats 4000000 in
set_option maxRecDepth 100000 in
theorem awake23 (w : World) (ht : FsmTab w) (hlt : LeaTab w) : Calls Tryd.prog 9 #[] w fun en w' => en = .returned (.bool true) ∧ Below w.heap.size w w' := by
  have HR := Lib.hid (risenEx w ht hlt)
  go_enter Tryd.func9, Tryd.ntmps9
  go_wp2_with fail
  refine HR.out.mono ?_
  rintro _ w1 ⟨q, rfl, hq, S1, b1⟩
  have S10 : w1.cell? ⟨q, 10, none⟩ = some (.int .i64 5) := S1.cell 10
  go_wp2_with fail
  refine (sesState S1).mono ?_
  rintro _ _ ⟨rfl, rfl⟩
  go_wp2_with fail
  refine (sesHold S1).mono ?_
  rintro _ _ ⟨rfl, rfl⟩
  go_wp2_with fail
  refine (sesWide S1).mono ?_
  rintro _ _ ⟨rfl, rfl⟩
  go_wp2_with fail
  refine (fsmName5 _).mono ?_
  rintro _ w2 ⟨rfl, b2⟩
  go_wp2_with fail
  go_ret
  exact ⟨rfl, btr b1 b2 b1.size⟩
end Go.Proofs.YthgjknmfghjioaaDoor
