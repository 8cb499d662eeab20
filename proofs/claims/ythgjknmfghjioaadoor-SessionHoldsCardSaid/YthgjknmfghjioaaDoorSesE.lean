/- Walks of layer 23 (session): an event is done. No conditions but the tables and where the session lies. -/
import Derived.Test.YthgjknmfghjioaaDoorProg
import Derived.WalkKit
import Derived.WalkSpells
import Derived.WalkLawsBesides
import Derived.Outline
import Derived.Deep.QuietTactic
import Derived.BigQuiet
import Derived.Handy
import Derived.Lib.Hide
import Derived.Deep.DeepCutAuto
import Derived.Deep.CutBlock
import Derived.Laws.Cover4
import Derived.OrdersHeld
import Derived.Deep.RegionHeld
import Derived.Test.YthgjknmfghjioaaDoorSesP
import Derived.Test.YthgjknmfghjioaaDoorSesD
import Derived.Test.YthgjknmfghjioaaDoorRowS
import Derived.Test.YthgjknmfghjioaaDoorFsmC
import Derived.Test.YthgjknmfghjioaaDoorNotPut
import Derived.Test.YthgjknmfghjioaaDoorOpnK
namespace Go.Proofs.YthgjknmfghjioaaDoor
open Go.RowKit
set_option linter.unusedSimpArgs false
set_option linter.unusedVariables false
/-- What an event's doing hands back. -/
def RetDo (w : World) (g : Nat) (K : SesK) (V : SesV) (O : OutV) (e : Ending) (w' : World) : Prop :=
  ∃ (At : Option Addr) (nt ct : Nat) (Af : Option Addr) (nf cf : Nat) (As : Option Addr) (ns cs : Nat), e = .returned (.agg (outA O At nt ct Af nf cf As ns cs)) ∧ OI w' w.heap.size At nt ct O.kinds ∧ OB w' 5 w.heap.size As ns cs O.sent ∧ BF w' (Un 0 w'.heap.size [g]) Af nf O.flt.2.2 ∧ Sm w.heap.size [g] w w' ∧ Blk w' g 70 (sesC K V)
/-- What comes of a step, on its way in a cell. -/
def DoMid (w : World) (g q r f : Nat) (K : SesK) (V : SesV) (O : OutV) (A : Option Addr) (n c : Nat) (l : List UInt8) (a b : Int) (wx : World) : Prop :=
  ∃ (At : Option Addr) (nt ct : Nat) (Af : Option Addr) (nf cf : Nat) (As : Option Addr) (ns cs : Nat), Blk wx q 48 (outA O At nt ct Af nf cf As ns cs) ∧ OI wx w.heap.size At nt ct O.kinds ∧ OB wx 5 w.heap.size As ns cs O.sent ∧ BF wx (Un 0 wx.heap.size [g]) Af nf O.flt.2.2 ∧ 0 ≤ cf ∧ (O.kinds = [] → At = none ∧ nt = 0 ∧ ct = 0 ∧ As = none ∧ ns = 0 ∧ cs = 0) ∧ Sm w.heap.size [g] w wx ∧ Blk wx g 70 (sesC K V) ∧ Blk wx r 48 #[.int .i64 0, .int .i64 0, .int .i64 0, .slice none 0 0, .int .i64 0, .int .i64 0, .slice none 0 0, .slice none 0 0, .slice none 0 0, .int .i64 0, .slice none 0 0, .int .u32 0, .int .i64 0, .int .i64 0, .bool false, .bool false, .int .u32 0, .int .u32 0, .slice none 0 0, .slice none 0 0, .slice none 0 0, .bool false, .bool false, .bool false, .bool false, .bool false] ∧ Blk wx f 36 #[.int .i64 a, .int .i64 b, .slice A n c] ∧ BF wx (Un 0 wx.heap.size [g]) A n l
theorem out_info : (Tryd.prog.info? 48).map (·.size) = some 26 := by kernel_rfl
theorem flt_infoS : (Tryd.prog.info? 36).map (·.size) = some 3 := by kernel_rfl
theorem ses_info : (Tryd.prog.info? 70).map (·.size) = some 17 := by kernel_rfl
theorem noU8 {cs : Array Value} (h : (cs.toList.all fun x => match x with | .int .u8 _ => false | _ => true) = true) (i : Nat) (v : Int) : cs[i]? ≠ some (Value.int .u8 v) := by
  intro he
  rw [← Array.getElem?_toList] at he
  have := List.all_eq_true.1 h _ (List.mem_of_getElem? he)
  simp at this
theorem BS.un {w : World} {n g : Nat} {A : Option Addr} {l : List UInt8} {t : TypeId} {cs : Array Value} (h : BS w w.heap.size A n l) (hb : Blk w g t cs) (hno : (cs.toList.all fun x => match x with | .int .u8 _ => false | _ => true) = true) : BF w (Un 0 w.heap.size [g]) A n l := by
  have h1 : BF w (Lo w) A n l := BF.of h (fun b hb => hb)
  refine ⟨h1.1, h1.2.1, fun hn => ?_⟩
  obtain ⟨b, off, e, hb', hc⟩ := h1.2.2 hn
  refine ⟨b, off, e, ⟨Nat.zero_le _, hb', ?_⟩, hc⟩
  intro hm
  have hm := List.mem_singleton.1 hm
  subst hm
  have h2 := hc 0 _ (bv_at l 0 (by have := h1.1; omega))
  rw [hb.cell] at h2
  exact noU8 hno _ _ h2
theorem BF.smK {w w' : World} {n g : Nat} {A : Option Addr} {l : List UInt8} (h : BF w (Un 0 w.heap.size [g]) A n l) (hs : Sm w.heap.size [g] w w') : BF w' (Un 0 w'.heap.size [g]) A n l :=
  h.keep ((Kp.sm hs).trans (Kp.sub fun b hb => ⟨hb.1, Nat.lt_of_lt_of_le hb.2.1 hs.size, hb.2.2⟩))
theorem BF.nilU {w : World} {S : Nat → Prop} : BF w S none 0 [] := ⟨rfl, Rw.none_⟩
theorem Sm.thenB {B g : Nat} {a w w' : World} (h : Sm B [g] a w) (hb : Below w.heap.size w w') (hB : B ≤ w.heap.size) : Sm B [g] a w' := h.below hb hB
theorem DoMid.below {w wx wy : World} {g q r f : Nat} {K : SesK} {V : SesV} {O : OutV} {A : Option Addr} {n c : Nat} {l : List UInt8} {a b : Int} (h : DoMid w g q r f K V O A n c l a b wx) (hb : Below wx.heap.size wx wy) (hB : w.heap.size ≤ wx.heap.size) : DoMid w g q r f K V O A n c l a b wy := by
  obtain ⟨At, nt, ct, Af, nf, cf, As, ns, cs, h1, h2, h3, h4, h5, h6, h7, h8, h9, h10, h11⟩ := h
  have hs : Sm wx.heap.size [g] wx wy := Sm.of_below hb (Nat.le_refl _)
  exact ⟨At, nt, ct, Af, nf, cf, As, ns, cs, h1.below hb h1.lt, h2.below hb, h3.below hb, h4.smK hs, h5, h6, h7.below hb hB, h8.below hb h8.lt, h9.below hb h9.lt, h10.below hb h10.lt, h11.smK hs⟩
theorem BF.two {w w' : World} {n g q : Nat} {A : Option Addr} {l : List UInt8} {cs : Array Value} {t : TypeId} (h : BF w (Un 0 w.heap.size [g]) A n l) (hs : Sm w.heap.size [q] w w') (hq : Blk w q t cs) (hno : (cs.toList.all fun x => match x with | .int .u8 _ => false | _ => true) = true) : BF w' (Un 0 w'.heap.size [g]) A n l := by
  refine ⟨h.1, h.2.1, fun hn => ?_⟩
  obtain ⟨b, off, e, hb, hc⟩ := h.2.2 hn
  have hbq : b ≠ q := by
    rintro rfl
    have h2 := hc 0 _ (bv_at l 0 (by have := h.1; omega))
    rw [hq.cell] at h2
    exact noU8 hno _ _ h2
  refine ⟨b, off, e, ⟨Nat.zero_le _, Nat.lt_of_lt_of_le hb.2.1 hs.size, hb.2.2⟩, fun j u hu => ?_⟩
  rw [← hc j u hu]
  exact World.cell?_of_block (hs.block b hb.2.1 (by simpa using hbq))
theorem outA_no8 (O : OutV) (At : Option Addr) (nt ct : Nat) (Af : Option Addr) (nf cf : Nat) (As : Option Addr) (ns cs : Nat) : ((outA O At nt ct Af nf cf As ns cs).toList.all fun x => match x with | .int .u8 _ => false | _ => true) = true := rfl
theorem sesC_no8 (K : SesK) (V : SesV) : ((sesC K V).toList.all fun x => match x with | .int .u8 _ => false | _ => true) = true := rfl
/-- A message is put behind those that were sent. -/
theorem DoMid.sent {w wx wy : World} {g q r f : Nat} {K : SesK} {V : SesV} {O : OutV} {A : Option Addr} {n c : Nat} {l : List UInt8} {a b k : Int} {L : List UInt8} (hq : w.heap.size ≤ q) (hr : w.heap.size ≤ r) (hf : w.heap.size ≤ f) (hqr : q ≠ r) (hqf : q ≠ f) (hgq : g ≠ q) (hB : w.heap.size ≤ wx.heap.size)
    {Af : Option Addr} {nf cf : Nat} (hO : Blk wx q 48 (outA O none 0 0 Af nf cf none 0 0)) (h4 : BF wx (Un 0 wx.heap.size [g]) Af nf O.flt.2.2) (h5 : 0 ≤ cf) (h7 : Sm w.heap.size [g] w wx) (h8 : Blk wx g 70 (sesC K V)) (h9 : Blk wx r 48 #[.int .i64 0, .int .i64 0, .int .i64 0, .slice none 0 0, .int .i64 0, .int .i64 0, .slice none 0 0, .slice none 0 0, .slice none 0 0, .int .i64 0, .slice none 0 0, .int .u32 0, .int .i64 0, .int .i64 0, .bool false, .bool false, .int .u32 0, .int .u32 0, .slice none 0 0, .slice none 0 0, .slice none 0 0, .bool false, .bool false, .bool false, .bool false, .bool false]) (h10 : Blk wx f 36 #[.int .i64 a, .int .i64 b, .slice A n c]) (h11 : BF wx (Un 0 wx.heap.size [g]) A n l)
    {At : Option Addr} {nt ct : Nat} {As : Option Addr} {ns cs : Nat} (hX : Blk wy q 48 (outA { O with kinds := [k], sent := L } At nt ct Af nf cf As ns cs)) (hI : OI wy wx.heap.size At nt ct [k]) (hO2 : OB wy 5 wx.heap.size As ns cs L) (hs : Sm wx.heap.size [q] wx wy) :
    DoMid w g q r f K V { O with kinds := [k], sent := L } A n c l a b wy := by
  have hqn : ∀ x, x ≠ q → x ∉ [q] := fun x hx => by simpa using hx
  refine ⟨At, nt, ct, Af, nf, cf, As, ns, cs, hX, hI.low hB, hO2.low hB, h4.two hs hO (outA_no8 _ _ _ _ _ _ _ _ _ _), h5, (fun h => by cases h), ?_, hs.blk h8 h8.lt (hqn _ hgq), hs.blk h9 h9.lt (hqn _ (Ne.symm hqr)), hs.blk h10 h10.lt (hqn _ (Ne.symm hqf)), h11.two hs hO (outA_no8 _ _ _ _ _ _ _ _ _ _)⟩
  exact ⟨hs.os.trans h7.os, hs.tape.trans h7.tape, hs.output.trans h7.output, Nat.le_trans h7.size hs.size, fun b hb hn => (hs.block b (by omega) (hqn _ (by omega))).trans (h7.block b hb hn)⟩
theorem out_ret {fn : Func} {p : Tmp} (h : fn.results = #[.cell p 48]) (tmps : Array Value) (w : World) (g : Nat) (C : Array Value) (hC : C.size = 26)
    (hp : tmps.getD p undef = .pointer (some ⟨g, 0, none⟩)) (hB : Blk w g 48 C) : (results fn tmps).run Tryd.prog w = .ok (.agg C) w :=
  results_cell_row h tmps w g 48 C (0, 0) _ hp hB Tryd.underlying48 rfl (by rw [hC]; exact out_info)
theorem LeaTab.sm {w w' : World} {B g : Nat} (h : LeaTab w) (hs : Sm B [g] w w') (hB : 1 < B) (hne : 1 ≠ g) : LeaTab w' := by
  obtain ⟨t, fr, hh⟩ := h
  exact ⟨t, fr, (hs.block _ hB (by simpa using hne)).trans hh⟩
theorem LeaTab.ne {w : World} {g : Nat} {K : SesK} {V : SesV} (h : LeaTab w) (hS : Blk w g 70 (sesC K V)) : 1 ≠ g := by
  rintro rfl
  have h0 := h.at_ 0
  have h1 := hS.cell 0
  rw [h0] at h1
  have e : (some (Value.int .i64 0) : Option Value) = some (.int .u32 K.la) := h1
  injection e with e
  injection e with e
  cases e
/-- A NOTIFICATION's fault, in cells. -/
theorem flt_val (e a b : Int) (A : Option Addr) (n c : Nat) (l : List UInt8) {w : World} {S : Nat → Prop} (h : BF w S A n l) :
    ∃ (Af : Option Addr) (nf cf : Nat), fsmFault e (.agg #[.int .i64 a, .int .i64 b, .slice A n c]) = .agg #[.int .i64 (fltE e (a, b, l)).1, .int .i64 (fltE e (a, b, l)).2.1, .slice Af nf cf] ∧ 0 ≤ cf ∧ BF w S Af nf (fltE e (a, b, l)).2.2 ∧ nf ≤ n := by
  unfold fsmFault fltE
  split
  · exact ⟨A, n, c, rfl, Nat.zero_le _, h, Nat.le_refl _⟩
  · repeat' split
    all_goals exact ⟨none, 0, 0, rfl, Nat.le_refl _, BF.nilU, Nat.zero_le _⟩
theorem putB_mine_len (K : SesK) : (putB (mineO K)).length = 18 := rfl
theorem putMine (K : SesK) (A : Option Addr) (c : Nat) (w : World) (hd : DL rCap 2 w (Lo w) A 1 [(65, b32 K.la)]) (hi : K.li < 4294967296) :
    Calls Tryd.prog 25 #[.agg #[.int .i64 4, .int .i64 (mineA K.la), .int .i64 (mineH K.lh), .int .u32 K.li, .slice A 1 c]] w fun en w' => ∃ (A : Option Addr) (n c : Nat), en = .returned (.tuple #[.slice A n c, .int .i64 0]) ∧ OB w' 5 w.heap.size A n c (putB (mineO K)) ∧ Below w.heap.size w w' :=
  (openPut 4 (mineA K.la) (mineH K.lh) K.li hi A 1 c _ w hd (by omega)).mono fun e w' ⟨A, n, c, h1, h2, h3⟩ => ⟨A, n, c, by
    have := h1
    rw [show (⟨4, mineA K.la, mineH K.lh, K.li, [(65, b32 K.la)]⟩ : Opn) = mineO K from rfl, if_pos (mineO_ok K)] at this
    exact this, by
    have := h2
    rw [show (⟨4, mineA K.la, mineH K.lh, K.li, [(65, b32 K.la)]⟩ : Opn) = mineO K from rfl, if_pos (mineO_ok K)] at this
    exact this, h3⟩
theorem sendOut (k : Int) (A : Option Addr) (n c : Nat) (l : List UInt8) (q : Nat) (O : OutV) (Af : Option Addr) (nf cf : Nat) (w : World) (ht : LeaTab w) (h : BS w w.heap.size A n l) (hl : n ≤ 100000) (hX : Blk w q 48 (outA O none 0 0 Af nf cf none 0 0)) :
    Calls Tryd.prog 27 #[.pointer (some ⟨q, 0, none⟩), .int .i64 k, .slice A n c] w fun en w' => en = .returned (.tuple #[]) ∧ ∃ (At : Option Addr) (nt ct : Nat) (As : Option Addr) (ns cs : Nat), Blk w' q 48 (outA { O with kinds := [k], sent := fpOut k l } At nt ct Af nf cf As ns cs) ∧ OI w' w.heap.size At nt ct [k] ∧ OB w' 5 w.heap.size As ns cs (fpOut k l) ∧ Sm w.heap.size [q] w w' :=
  outSend k A n c l q _ _ _ _ _ _ _ _ _ _ _ _ _ _ _ _ _ _ _ _ _ _ _ _ w ht h hl hX
theorem npOut_len (a b : Int) (l : List UInt8) : (npOut a b l).length ≤ 4077 := by
  unfold npOut
  split
  · simp
  · simp only [List.length_cons]; omega
theorem notPutX (a b : Int) (A : Option Addr) (n c : Nat) (l : List UInt8) (w : World) (h : BS w w.heap.size A n l) (hn : n ≤ 100000) :
    Calls Tryd.prog 29 #[.agg #[.int .i64 a, .int .i64 b, .slice A n c]] w fun en w' => ∃ (A : Option Addr) (n c : Nat) (E : Int), en = .returned (.tuple #[.slice A n c, .int .i64 E]) ∧ OB w' 5 w.heap.size A n c (npOut a b l) ∧ Below w.heap.size w w' :=
  (noticePut a b A n c l w h hn).mono fun e w' ⟨A, n, c, h1, h2, h3⟩ => ⟨A, n, c, _, h1, h2, h3⟩
def kin1 (D : Int) : List Int := if bitB D 4 = true then [1] else []
def snt1 (K : SesK) (D : Int) : List UInt8 := if bitB D 4 = true then fpOut 1 (putB (mineO K)) else []
def kin2 (D : Int) : List Int := if bitB D 4 = true then [1] else if bitB D 8 = true then [4] else []
def snt2 (K : SesK) (D : Int) : List UInt8 := if bitB D 4 = true then fpOut 1 (putB (mineO K)) else if bitB D 8 = true then fpOut 4 [] else []
/-- A whole row loaded, as one step of a region that draws. -/
theorem step_load_row {P : Program} {ops : Array Oper} {o : Oper} {a : Act} {w : World} {K : Act → World → Prop} {Q : Exit → Act → World → Prop} {E : Prop} (hgd : o.guard = none) (ty : TypeId) (x : Operand) (ho : o.op = .load ty x)
    (g : Nat) (hx : a.eval x = .pointer (some ⟨g, 0, none⟩)) (t : TypeId) (cs : Array Value) (d : TypeDesc) (hg : Blk w g t cs)
    (hu : P.underlying ty = some d) (hd : (match d with | .struct _ | .array _ _ => true | _ => false) = true) (hi : (P.info? ty).map (·.size) = some cs.size)
    (h : K (a.put o.dst (.agg cs)) w) : if Region.wanted o (yielded ops a.tmps) = true then Oper.wp P o a w K Q else E := by
  have hw : Region.wanted o (yielded ops a.tmps) = true := by simp [Region.wanted, hgd]
  rw [if_pos hw]
  exact wp_load_row ty x ho g hx t cs (0, 0) d hg hu hd hi h
set_option maxHeartbeats 4000000 in
set_option maxRecDepth 100000 in
theorem sesStep (K : SesK) (V : SesV) (e a b : Int) (A : Option Addr) (n c : Nat) (l : List UInt8) (g : Nat) (w : World) (hS : Blk w g 70 (sesC K V)) (hl : BS w w.heap.size A n l) (hn : n ≤ 100000) (hho : Hid (0 ≤ V.ho ∧ V.ho ≤ 65535)) (hK : Hid (K.la < 4294967296 ∧ K.li < 4294967296)) (ht : FsmTab w) (hlt : LeaTab w) :
    Calls Tryd.prog 10 #[.pointer (some ⟨g, 0, none⟩), .int .i64 e, .agg #[.int .i64 a, .int .i64 b, .slice A n c]] w (RetDo w g K (sesV K.ps V e) (doOut K V e (a, b, l))) := by
  have hgl := hS.lt
  obtain ⟨W, hW, hF, hR, b0⟩ := boxes2 w #[.int .i64 a, .int .i64 b, .slice A n c] #[.int .i64 0, .int .i64 0, .int .i64 0, .slice none 0 0, .int .i64 0, .int .i64 0, .slice none 0 0, .slice none 0 0, .slice none 0 0, .int .i64 0, .slice none 0 0, .int .u32 0, .int .i64 0, .int .i64 0, .bool false, .bool false, .int .u32 0, .int .u32 0, .slice none 0 0, .slice none 0 0, .slice none 0 0, .bool false, .bool false, .bool false, .bool false, .bool false] 36 48
  have HW := Lib.hid hW
  clear hW
  obtain ⟨f, hf⟩ : ∃ f, w.heap.size = f := ⟨_, rfl⟩
  obtain ⟨r, hr⟩ : ∃ r, f + 1 = r := ⟨_, rfl⟩
  have b0f := b0
  rw [hf] at hF hR b0f hgl
  rw [hr] at hR
  have hrf : f < r := by omega
  have HFz := Lib.hid hf
  have HRz := Lib.hid hr
  clear hf hr
  have hS0 := hS.below b0 hS.lt
  have hst : W.cell? ⟨g, 10, none⟩ = some (.int .i64 V.st) := hS0.cell 10
  go_enter Tryd.func10, Tryd.ntmps10
  go_upto_region 1 with fail
  rw [HW.out]
  rw [HFz.out]
  rw [HRz.out]
  go_upto_region 3 with fail
  rename_i hk
  have HK3 := Lib.hid hk
  clear hk
  obtain ⟨wd, hwd⟩ : ∃ x, W.drew = x := ⟨_, rfl⟩
  have bd0 : Below W.heap.size W wd := by rw [← hwd]; exact (Below.refl _ _).drew
  have hzd : wd.heap.size = W.heap.size := by rw [← hwd]; rfl
  have hSd := hS0.below bd0 hS0.lt
  have hFd := hF.below bd0 hF.lt
  have hRd := hR.below bd0 hR.lt
  have hstd : wd.cell? ⟨g, 10, none⟩ = some (.int .i64 V.st) := hSd.cell 10
  obtain ⟨W2, hW2, hO, b2⟩ := box1c wd #[.int .i64 0, .int .i64 0, .int .i64 0, .slice none 0 0, .int .i64 0, .int .i64 0, .slice none 0 0, .slice none 0 0, .slice none 0 0, .int .i64 0, .slice none 0 0, .int .u32 0, .int .i64 0, .int .i64 0, .bool false, .bool false, .int .u32 0, .int .u32 0, .slice none 0 0, .slice none 0 0, .slice none 0 0, .bool false, .bool false, .bool false, .bool false, .bool false] 48
  obtain ⟨q, hq⟩ : ∃ q, W.heap.size = q := ⟨_, rfl⟩
  have hqd := hzd.trans hq
  have hRl := hRd.lt
  have hSl := hSd.lt
  rw [hqd] at hO hRl hSl
  have hS2 := hSd.below b2 hSd.lt
  have hF2 := hFd.below b2 hFd.lt
  have hR2 := hRd.below b2 hRd.lt
  have hst2 : W2.cell? ⟨g, 10, none⟩ = some (.int .i64 V.st) := hS2.cell 10
  obtain ⟨C, hC⟩ : ∃ C : Array Value, C = #[.int .i64 e, .int .i64 V.st, .int .i64 V.st, .slice none 0 0, .int .i64 0, .int .i64 0, .slice none 0 0, .slice none 0 0, .slice none 0 0, .int .i64 0, .slice none 0 0, .int .u32 0, .int .i64 0, .int .i64 0, .bool false, .bool false, .int .u32 0, .int .u32 0, .slice none 0 0, .slice none 0 0, .slice none 0 0, .bool false, .bool false, .bool false, .bool false, .bool false] := ⟨_, rfl⟩
  have hgq : g ≠ q := by omega
  have hst3 : ∀ cs, (W2.setRow q cs).cell? ⟨g, 10, none⟩ = some (.int .i64 V.st) := fun cs => (hS2.rowFar hgq cs).cell 10
  have HWD := Lib.hid hwd
  have HQ := Lib.hid hq
  have HQd := Lib.hid hqd
  have HW2 := Lib.hid hW2
  clear hwd hW2 hq hqd hzd
  refine wp_region_held_drew (S := (fun w' => w'.cell? ⟨g, 10, none⟩ = some (.int .i64 V.st))) (by kernel_rfl) ?_ (fun hHeld => ?_)
  · rw [HWD.out]; exact hstd
  rw [HWD.out]
  rw [HWD.out] at hHeld
  refine wpAnyH_take (i := 0) (v := ?m1_v0) rfl (by kernel_rfl) (by kernel_rfl) (by kernel_rfl) (by intro _ _ _ h; exact h) (Or.inl ⟨by rfl, ?m1_hy0⟩) (by assumption) ?m1_rest0
  case m1_hy0 => (intro w hSw; (try dsimp only at hSw); go_simp; try with_reducible rfl)
  try simp only [Act.put, List.getElem_toArray, List.getElem_cons_succ, List.getElem_cons_zero, List.setIfInBounds_toArray, List.set_cons_zero, List.set_cons_succ]
  refine wpAnyH_take (i := 1) (v := ?m2_v1) rfl (by kernel_rfl) (by kernel_rfl) (by kernel_rfl) (by intro _ _ _ h; exact h) (Or.inl ⟨by rfl, ?m2_hy1⟩) (by assumption) ?m2_rest1
  case m2_hy1 => (intro w hSw; (try dsimp only at hSw); go_simp; try with_reducible rfl)
  try simp only [Act.put, List.getElem_toArray, List.getElem_cons_succ, List.getElem_cons_zero, List.setIfInBounds_toArray, List.set_cons_zero, List.set_cons_succ]
  refine wpAnyH_take (i := 2) (v := ?m3_v2) rfl (by kernel_rfl) (by kernel_rfl) (by kernel_rfl) (by intro _ _ _ h; exact h) (Or.inl ⟨by rfl, ?m3_hy2⟩) (by assumption) ?m3_rest2
  case m3_hy2 => (intro w hSw; (try dsimp only at hSw); go_simp; try with_reducible rfl)
  try simp only [Act.put, List.getElem_toArray, List.getElem_cons_succ, List.getElem_cons_zero, List.setIfInBounds_toArray, List.set_cons_zero, List.set_cons_succ]
  refine wpAnyH_take (i := 3) (v := ?m4_v3) rfl (by kernel_rfl) (by kernel_rfl) (by kernel_rfl) (by intro _ _ _ h; exact h) (Or.inl ⟨by rfl, ?m4_hy3⟩) (by assumption) ?m4_rest3
  case m4_hy3 => (intro w hSw; (try dsimp only at hSw); go_simp; try with_reducible rfl)
  try simp only [Act.put, List.getElem_toArray, List.getElem_cons_succ, List.getElem_cons_zero, List.setIfInBounds_toArray, List.set_cons_zero, List.set_cons_succ]
  refine wpAnyH_take (i := 4) (v := ?m5_v4) rfl (by kernel_rfl) (by kernel_rfl) (by kernel_rfl) (by intro _ _ _ h; exact h) (Or.inl ⟨by rfl, ?m5_hy4⟩) (by assumption) ?m5_rest4
  case m5_hy4 => (intro w hSw; (try dsimp only at hSw); go_simp; try with_reducible rfl)
  try simp only [Act.put, List.getElem_toArray, List.getElem_cons_succ, List.getElem_cons_zero, List.setIfInBounds_toArray, List.set_cons_zero, List.set_cons_succ]
  refine wpAnyH_take (i := 5) (v := ?m6_v5) rfl (by kernel_rfl) (by kernel_rfl) (by kernel_rfl) (by intro _ _ _ h; exact h) (Or.inl ⟨by rfl, ?m6_hy5⟩) (by assumption) ?m6_rest5
  case m6_hy5 => (intro w hSw; (try dsimp only at hSw); go_simp; try with_reducible rfl)
  try simp only [Act.put, List.getElem_toArray, List.getElem_cons_succ, List.getElem_cons_zero, List.setIfInBounds_toArray, List.set_cons_zero, List.set_cons_succ]
  refine wpAnyH_take (i := 6) (v := ?m7_v6) rfl (by kernel_rfl) (by kernel_rfl) (by kernel_rfl) (by intro _ _ _ h; exact h) (Or.inl ⟨by rfl, ?m7_hy6⟩) (by assumption) ?m7_rest6
  case m7_hy6 => (intro w hSw; (try dsimp only at hSw); go_simp; try with_reducible rfl)
  try simp only [Act.put, List.getElem_toArray, List.getElem_cons_succ, List.getElem_cons_zero, List.setIfInBounds_toArray, List.set_cons_zero, List.set_cons_succ]
  refine wpAnyH_take (i := 7) (v := ?m8_v7) rfl (by kernel_rfl) (by kernel_rfl) (by kernel_rfl) (by intro _ _ _ h; exact h) (Or.inl ⟨by rfl, ?m8_hy7⟩) (by assumption) ?m8_rest7
  case m8_hy7 => (intro w hSw; (try dsimp only at hSw); go_simp; try with_reducible rfl)
  try simp only [Act.put, List.getElem_toArray, List.getElem_cons_succ, List.getElem_cons_zero, List.setIfInBounds_toArray, List.set_cons_zero, List.set_cons_succ]
  refine wpAnyH_take (i := 8) (v := ?m9_v8) rfl (by kernel_rfl) (by kernel_rfl) (by kernel_rfl) (by intro _ _ _ h; exact h) (Or.inl ⟨by rfl, ?m9_hy8⟩) (by assumption) ?m9_rest8
  case m9_hy8 => (intro w hSw; (try dsimp only at hSw); go_simp; try with_reducible rfl)
  try simp only [Act.put, List.getElem_toArray, List.getElem_cons_succ, List.getElem_cons_zero, List.setIfInBounds_toArray, List.set_cons_zero, List.set_cons_succ]
  refine wpAnyH_take (i := 9) (v := ?m10_v9) rfl (by kernel_rfl) (by kernel_rfl) (by kernel_rfl) (by intro _ _ _ h; exact h) (Or.inl ⟨by rfl, ?m10_hy9⟩) (by assumption) ?m10_rest9
  case m10_hy9 => (intro w hSw; (try dsimp only at hSw); go_simp; try with_reducible rfl)
  try simp only [Act.put, List.getElem_toArray, List.getElem_cons_succ, List.getElem_cons_zero, List.setIfInBounds_toArray, List.set_cons_zero, List.set_cons_succ]
  refine wpAnyH_take (i := 10) (v := ?m11_v10) rfl (by kernel_rfl) (by kernel_rfl) (by kernel_rfl) (by intro _ _ _ h; exact h) (Or.inl ⟨by rfl, ?m11_hy10⟩) (by assumption) ?m11_rest10
  case m11_hy10 => (intro w hSw; (try dsimp only at hSw); go_simp; try with_reducible rfl)
  try simp only [Act.put, List.getElem_toArray, List.getElem_cons_succ, List.getElem_cons_zero, List.setIfInBounds_toArray, List.set_cons_zero, List.set_cons_succ]
  refine wpAnyH_ready (rs := [11]) (by kernel_rfl) (by simp) ?_
  refine AllReadyH.cons rfl (fun K hK => ?_) AllReadyH.nil
  go_simp
  go_wp2_with (fail)
  refine hK.out _ _ ?_ (fun hHeld => ?_)
  · try dsimp only
    (try rw [HW2.out]); exact hst2
  clear hK K
  try rw [HW2.out]
  try rw [HQd.out]
  try rw [HQ.out]
  refine wpAnyH_ready (rs := [12]) (by kernel_rfl) (by simp) ?_
  refine AllReadyH.cons rfl (fun K hK => ?_) AllReadyH.nil
  refine step_row rfl 48 (.tmp 7) (.tmp 27) rfl q #[.int .i64 e, .int .i64 V.st, .int .i64 V.st, .slice none 0 0, .int .i64 0, .int .i64 0, .slice none 0 0, .slice none 0 0, .slice none 0 0, .int .i64 0, .slice none 0 0, .int .u32 0, .int .i64 0, .int .i64 0, .bool false, .bool false, .int .u32 0, .int .u32 0, .slice none 0 0, .slice none 0 0, .slice none 0 0, .bool false, .bool false, .bool false, .bool false, .bool false] (by rfl) (by rfl) 48 #[.int .i64 0, .int .i64 0, .int .i64 0, .slice none 0 0, .int .i64 0, .int .i64 0, .slice none 0 0, .slice none 0 0, .slice none 0 0, .int .i64 0, .slice none 0 0, .int .u32 0, .int .i64 0, .int .i64 0, .bool false, .bool false, .int .u32 0, .int .u32 0, .slice none 0 0, .slice none 0 0, .slice none 0 0, .bool false, .bool false, .bool false, .bool false, .bool false] hO out_info rfl (by kernel_rfl) ?_
  refine hK.out _ _ ?_ (fun hHeld => ?_)
  · try dsimp only
    exact hst3 _
  clear hK K
  refine wpAnyH_done (by kernel_rfl) ?_ _
  refine HK3.out _ _ ?_
  have hC0 : #[.int .i64 e, .int .i64 V.st, .int .i64 V.st, .slice none 0 0, .int .i64 0, .int .i64 0, .slice none 0 0, .slice none 0 0, .slice none 0 0, .int .i64 0, .slice none 0 0, .int .u32 0, .int .i64 0, .int .i64 0, .bool false, .bool false, .int .u32 0, .int .u32 0, .slice none 0 0, .slice none 0 0, .slice none 0 0, .bool false, .bool false, .bool false, .bool false, .bool false] = C := hC.symm
  rw [hC0]
  have hCs : C.size = 26 := by rw [hC]; rfl
  have hCi : (Tryd.prog.info? 48).map (·.size) = some C.size := by rw [hCs]; exact out_info
  have hC1 : C.all (·.oneCell') = true := by rw [hC]; kernel_rfl
  have hO3 : Blk (W2.setRow q C) q 48 C := hO.row C
  have hR3 := hR2.rowFar (k := q) (by omega) C
  have hF3 := hF2.rowFar (k := q) (by have := hFd.lt; have := HQd.out; omega) C
  have hS3 := hS2.rowFar hgq C
  have zW := b0.size
  have hqz : w.heap.size ≤ q := by have := HQ.out; omega
  have hqf : f < q := by have := hFd.lt; have := HQd.out; omega
  have hqr : r < q := hRl
  have m0 : Sm w.heap.size [] w (W2.setRow q C) := (((Sm.of_below b0 (Nat.le_refl _)).below bd0 zW).below b2 (by have := bd0.size; omega)).setRow (.inl hqz) C
  have b03 := m0.to_below (Nat.le_refl _) (by simp)
  have hl3 := hl.call b03
  have ht3 := ht.below b03
  have hlt3 := hlt.call b03
  obtain ⟨w3, hw3⟩ : ∃ x, W2.setRow q C = x := ⟨_, rfl⟩
  rw [hw3] at hO3 hR3 hF3 hS3 b03 hl3 ht3 hlt3
  rw [hw3]
  have HC := Lib.hid hC
  clear hC0 hC hw3 hst hstd hst2 hst3 m0 hO hR hR2 hF2 hS2 hSd hFd hRd HK3 HW2 HW HQ HWD HQd bd0 b2 b0f hSl hRl hS0 hF
  have hst3 : w3.cell? ⟨g, 10, none⟩ = some (.int .i64 V.st) := hS3.cell 10
  by_cases he : sesIn e
  case neg =>
    have HOUT := Lib.hid (show RetDo w g K (sesV K.ps V e) (doOut K V e (a, b, l)) (.returned (.agg C)) (w3.setRow r C) by
      have eV : sesV K.ps V e = V := if_neg he
      have eD : sesDo K.ps V.st e = 0 := if_neg he
      have eT : sesTo K.ps V.st e = V.st := if_neg he
      refine ⟨none, 0, 0, none, 0, 0, none, 0, 0, ?_, ?_, ?_, ?_, (Sm.of_below b03 (Nat.le_refl _)).setRow (.inl (by have := HFz.out; omega)) C, ?_⟩
      · rw [HC.out]; unfold doOut outA; rw [eD, eT]; rfl
      · unfold doOut; rw [eD]; exact OI.nil_
      · unfold doOut; rw [eD]; exact OB.nil_
      · unfold doOut; rw [eD]; exact BF.nilU
      · rw [eV]; exact hS3.rowFar (by omega) C)
    by_cases h1 : e < 0
    · have t1 : decide (e < 0) = true := decide_eq_true h1
      go_upto_region 5 with fail
      rename_i hk
      have HKK := Lib.hid hk
      clear hk
      refine wp_region_lit ?_
      refine wpList_load_row rfl 48 (.tmp 7) rfl q (by rfl) 48 C (0, 0) _ hO3 Tryd.underlying48 rfl hCi ?_
      refine wpList_store_row rfl 48 (.tmp 6) (.tmp 34) rfl r C (by rfl) (by rfl) 48 #[.int .i64 0, .int .i64 0, .int .i64 0, .slice none 0 0, .int .i64 0, .int .i64 0, .slice none 0 0, .slice none 0 0, .slice none 0 0, .int .i64 0, .slice none 0 0, .int .u32 0, .int .i64 0, .int .i64 0, .bool false, .bool false, .int .u32 0, .int .u32 0, .slice none 0 0, .slice none 0 0, .slice none 0 0, .bool false, .bool false, .bool false, .bool false, .bool false] hR3 hCi hCs.symm hC1 ?_
      go_simp
      refine HKK.out _ _ (wp_ret ?_)
      exact bodyPost_ret (out_ret rfl _ _ r C hCs rfl (hR3.row _)) rfl HOUT.out
    · have t1 : decide (e < 0) = false := decide_eq_false h1
      have t2 : decide ((16 : Int) ≤ e) = true := decide_eq_true (by unfold sesIn at he; omega)
      go_upto_region 5 with fail
      rename_i hk
      have HKK := Lib.hid hk
      clear hk
      refine wp_region_lit ?_
      refine wpList_load_row rfl 48 (.tmp 7) rfl q (by rfl) 48 C (0, 0) _ hO3 Tryd.underlying48 rfl hCi ?_
      refine wpList_store_row rfl 48 (.tmp 6) (.tmp 34) rfl r C (by rfl) (by rfl) 48 #[.int .i64 0, .int .i64 0, .int .i64 0, .slice none 0 0, .int .i64 0, .int .i64 0, .slice none 0 0, .slice none 0 0, .slice none 0 0, .int .i64 0, .slice none 0 0, .int .u32 0, .int .i64 0, .int .i64 0, .bool false, .bool false, .int .u32 0, .int .u32 0, .slice none 0 0, .slice none 0 0, .slice none 0 0, .bool false, .bool false, .bool false, .bool false, .bool false] hR3 hCi hCs.symm hC1 ?_
      go_simp
      refine HKK.out _ _ (wp_ret ?_)
      exact bodyPost_ret (out_ret rfl _ _ r C hCs rfl (hR3.row _)) rfl HOUT.out
  have t1 : decide (e < 0) = false := decide_eq_false (by unfold sesIn at he; omega)
  have t2 : decide ((16 : Int) ≤ e) = false := decide_eq_false (by unfold sesIn at he; omega)
  rw [HC.out] at hO3
  clear hCs hCi hC1 HC
  obtain ⟨T, hT⟩ : ∃ T, sesTo K.ps V.st e = T := ⟨_, rfl⟩
  obtain ⟨D, hD⟩ : ∃ D, sesDo K.ps V.st e = D := ⟨_, rfl⟩
  have HE := Lib.hid he
  have HT := Lib.hid hT
  have HD := Lib.hid hD
  clear he hT hD
  go_wp2_with fail
  refine (fsmStep V.st e w3 ht3).mono ?_
  rintro _ w4 ⟨rfl, b4⟩
  have hO4 := hO3.below b4 hO3.lt
  have hR4 := hR3.below b4 hR3.lt
  have hF4 := hF3.below b4 hF3.lt
  have hS4 := hS3.below b4 hS3.lt
  have hl4 := hl3.call b4
  have hlt4 := hlt3.call b4
  have b04 := btr b03 b4 b03.size
  clear hO3 hR3 hF3 hS3 hl3 hlt3 ht3 hst3
  have s9 : w4.cell? ⟨g, 9, none⟩ = some (.bool K.ps) := hS4.cell 9
  have s10 : w4.cell? ⟨g, 10, none⟩ = some (.int .i64 V.st) := hS4.cell 10
  have HP : Hid (∃ B : Bool, decide (sesPas K.ps V.st e) = B) := Lib.hid ⟨_, rfl⟩
  obtain ⟨B, hB⟩ := HP.out
  have HB := Lib.hid hB
  clear hB HP
  go_upto_region 7 with fail
  go_cut [58] (fun s58 wx => s58 = .bool B ∧ wx = w4)
  case first =>
    cases p1 : K.ps
    · have e1 := Lib.hid (show B = false by rw [← HB.out]; exact decide_eq_false (fun h => by rw [h.1] at p1; cases p1))
      go_wp2_with fail
      go_meet
      exact ⟨by rw [e1.out], rfl⟩
    · by_cases p2 : V.st = 0
      · have u1 : (V.st == 0) = true := by simpa using p2
        by_cases p3 : e = 0
        · have u2 : (e == 0) = true := by simpa using p3
          have e1 := Lib.hid (show B = true by rw [← HB.out]; exact decide_eq_true ⟨p1, p2, p3⟩)
          clear p2 p3
          go_wp2_with fail
          go_meet
          exact ⟨by rw [e1.out], rfl⟩
        · have u2 : (e == 0) = false := by simpa using p3
          have e1 := Lib.hid (show B = false by rw [← HB.out]; exact decide_eq_false (fun h => p3 h.2.2))
          clear p2 p3
          go_wp2_with fail
          go_meet
          exact ⟨by rw [e1.out], rfl⟩
      · have u1 : (V.st == 0) = false := by simpa using p2
        have e1 := Lib.hid (show B = false by rw [← HB.out]; exact decide_eq_false (fun h => p2 h.2.1))
        clear p2
        go_wp2_with fail
        go_meet
        exact ⟨by rw [e1.out], rfl⟩
  case rest =>
   obtain ⟨rfl, hwc⟩ := hcut
   subst hwc
   go_upto_if 58 with fail
   go_cut [8, 9] (fun s8 s9 wx => s8 = .int .i64 T ∧ s9 = .int .i64 D ∧ wx = wc)
   case first =>
    cases B
    · have HZ := Lib.hid (show fsmTo V.st e = T ∧ fsmDo V.st e = D from ⟨by rw [← HT.out]; unfold sesTo; rw [if_pos HE.out, if_neg (of_decide_eq_false HB.out)], by rw [← HD.out]; unfold sesDo; rw [if_pos HE.out, if_neg (of_decide_eq_false HB.out)]⟩)
      go_wp2_with fail
      go_meet
      exact ⟨by rw [HZ.out.1], by rw [HZ.out.2], rfl⟩
    · have HZ := Lib.hid (show T = 2 ∧ D = 0 from ⟨by rw [← HT.out]; unfold sesTo; rw [if_pos HE.out, if_pos (of_decide_eq_true HB.out)], by rw [← HD.out]; unfold sesDo; rw [if_pos HE.out, if_pos (of_decide_eq_true HB.out)]⟩)
      go_wp2_with fail
      go_meet
      exact ⟨by rw [HZ.out.1], by rw [HZ.out.2], rfl⟩
   case rest =>
    obtain ⟨rfl, rfl, hwc⟩ := hcut
    subst hwc
    have o2 := hO4.cell 2
    have fo2 := hO4.frozen 2
    have f10 := hS4.frozen 10
    have o2' : ∀ v, (wc.setCell ⟨g, 10, none⟩ v).cell? ⟨q, 2, none⟩ = some (.int .i64 V.st) := fun v => (hO4.far (p := ⟨g, 10, none⟩) (Ne.symm hgq) v).cell 2
    have fo2' : ∀ v, (wc.setCell ⟨g, 10, none⟩ v).frozen? ⟨q, 2, none⟩ = false := fun v => (hO4.far (p := ⟨g, 10, none⟩) (Ne.symm hgq) v).frozen 2
    go_upto_region 10 with fail
    obtain ⟨w5, hw5⟩ : ∃ x, (wc.setCell ⟨g, 10, none⟩ (.int .i64 T)).setCell ⟨q, 2, none⟩ (.int .i64 T) = x := ⟨_, rfl⟩
    have hS5 : Blk w5 g 70 (sesC K { V with st := T }) := by
      have := (hS4.set_ 10 (.int .i64 T)).far (p := ⟨q, 2, none⟩) hgq (.int .i64 T)
      rw [hw5] at this
      exact this
    have hO5 : Blk w5 q 48 (outA ⟨e, V.st, T, [], (0, 0, []), [], false, false, false, false⟩ none 0 0 none 0 0 none 0 0) := by
      have := (hO4.far (p := ⟨g, 10, none⟩) (Ne.symm hgq) (.int .i64 T)).set_ 2 (.int .i64 T)
      rw [hw5] at this
      exact this
    have hgr : g ≠ r := by omega
    have hgf : g ≠ f := by omega
    have hR5 := (hR4.far (p := ⟨g, 10, none⟩) (Ne.symm hgr) (.int .i64 T)).far (p := ⟨q, 2, none⟩) (show r ≠ q by omega) (.int .i64 T)
    have hF5 := (hF4.far (p := ⟨g, 10, none⟩) (Ne.symm hgf) (.int .i64 T)).far (p := ⟨q, 2, none⟩) (show f ≠ q by omega) (.int .i64 T)
    have hfw : w.heap.size = f := HFz.out
    have m5 := ((Sm.of_below (av := [g]) b04 (Nat.le_refl _)).setCell (p := ⟨g, 10, none⟩) (.inr (by simp)) (.int .i64 T)).setCell (p := ⟨q, 2, none⟩) (.inl (show w.heap.size ≤ q by omega)) (.int .i64 T)
    have z04 := b04.size
    have hgw : g < w.heap.size := by omega
    have hlg := hlt.ne hS
    have hll := hlt.lt
    rw [hw5] at hR5 hF5 m5
    rw [hw5]
    have hlt5 := hlt.sm m5 hll hlg
    have l5 : BF w5 (Un 0 w5.heap.size [g]) A n l := (hl.un hS (sesC_no8 K V)).smK m5
    clear hw5 o2 fo2 f10 o2' fo2' s9 s10 hO4 hR4 hF4 hS4 hl4 hlt4 b4 b04 hfw
    go_wp2_with fail
    refine (sesTimes K { V with st := T } D g w5 hS5 hho.out.1 hho.out.2).mono ?_
    rintro _ w6 ⟨rfl, hS6, m56⟩
    obtain ⟨VT, hVT⟩ : ∃ VT, sesT D { V with st := T } = VT := ⟨_, rfl⟩
    rw [hVT] at hS6
    have HVT := Lib.hid hVT
    clear hVT
    have z5 := m5.size
    have hO6 := m56.blk hO5 hO5.lt (by simpa using Ne.symm hgq)
    have hR6 := m56.blk hR5 hR5.lt (by simpa using Ne.symm hgr)
    have hF6 := m56.blk hF5 hF5.lt (by simpa using Ne.symm hgf)
    have m6 := m5.trans (m56.less z5)
    have l6 := l5.smK m56
    have hlt6 := hlt.sm m6 hll hlg
    have z6 := m6.size
    clear hO5 hR5 hF5 hS5 l5 hlt5 m56 m5 z5
    have hwq : w.heap.size ≤ q := hqz
    have hwr : w.heap.size ≤ r := by have := HFz.out; omega
    have hwf : w.heap.size ≤ f := by have := HFz.out; omega
    have hqr' : q ≠ r := by omega
    have hqf' : q ≠ f := by omega
    go_upto_if 71 with fail
    go_cut [10, 11] (fun s10 s11 wx => DoMid w g q r f K VT ⟨e, V.st, T, kin1 D, (0, 0, []), snt1 K D, false, false, false, false⟩ A n c l a b wx)
    case first =>
      cases h4 : bitB D 4
      · have e1 : kin1 D = [] := by unfold kin1; rw [h4]; rfl
        have e2 : snt1 K D = [] := by unfold snt1; rw [h4]; rfl
        unfold bitB at h4
        go_wp2_with fail
        go_meet
        rw [e1, e2]
        exact ⟨none, 0, 0, none, 0, 0, none, 0, 0, hO6, OI.nil_, OB.nil_, BF.nilU, Nat.le_refl _, fun _ => ⟨rfl, rfl, rfl, rfl, rfl, rfl⟩, m6, hS6, hR6, hF6, l6⟩
      · have e1 : kin1 D = [1] := by unfold kin1; rw [h4]; rfl
        have e2 : snt1 K D = fpOut 1 (putB (mineO K)) := by unfold snt1; rw [h4]; rfl
        unfold bitB at h4
        have s0 : w6.cell? ⟨g, 0, none⟩ = some (.int .u32 K.la) := hS6.cell 0
        have s1 : w6.cell? ⟨g, 1, none⟩ = some (.int .u32 K.li) := hS6.cell 1
        have s2 : w6.cell? ⟨g, 2, none⟩ = some (.int .u32 K.lx) := hS6.cell 2
        have s3 : w6.cell? ⟨g, 3, none⟩ = some (.int .i64 K.lh) := hS6.cell 3
        go_wp2_with fail
        refine (openMine K.la K.li K.lx K.lh _ hK.out.1).mono ?_
        rintro _ w7 ⟨A7, c7, rfl, d7, hc7, b7⟩
        clear s0 s1 s2 s3
        go_wp2_with fail
        refine (putMine K A7 c7 w7 d7 hK.out.2).mono ?_
        rintro _ w8 ⟨A8, n8, c8, rfl, o8, b8⟩
        have b68 := btr b7 b8 b7.size
        have D8 : DoMid w g q r f K VT ⟨e, V.st, T, [], (0, 0, []), [], false, false, false, false⟩ A n c l a b w8 := DoMid.below ⟨none, 0, 0, none, 0, 0, none, 0, 0, hO6, OI.nil_, OB.nil_, BF.nilU, Nat.le_refl _, fun _ => ⟨rfl, rfl, rfl, rfl, rfl, rfl⟩, m6, hS6, hR6, hF6, l6⟩ b68 z6
        have hlt8 := hlt6.call b68
        have hO8 := hO6.below b68 hO6.lt
        have z8 := b68.size
        have hn8 : n8 ≤ 100000 := by have := o8.1; have := putB_mine_len K; omega
        go_wp2_with fail
        refine (sendOut 1 A8 n8 c8 (putB (mineO K)) q _ none 0 0 w8 hlt8 o8.bs hn8 hO8).mono ?_
        rintro _ w9 ⟨rfl, At, nt, ct, As, ns, cs, hX, hI, hB, m9⟩
        obtain ⟨At', nt', ct', Af', nf', cf', As', ns', cs', k1, k2, k3, k4, k5, k6, k7, k8, k9, k10, k11⟩ := D8
        go_wp2_with fail
        go_meet
        rw [e1, e2]
        exact DoMid.sent hwq hwr hwf hqr' hqf' hgq (by omega) hO8 BF.nilU (Nat.le_refl _) k7 k8 k9 k10 k11 hX hI hB m9
    case rest =>
      clear hO6 hR6 hF6 hS6 l6 hlt6 m6 z6
      have D1 := hcut
      clear hcut
      obtain ⟨w7, hw7⟩ : ∃ x, x = wc := ⟨_, rfl⟩
      subst hw7
      go_upto_if 85 with fail
      go_cut [] (fun wx => DoMid w g q r f K VT ⟨e, V.st, T, kin2 D, (0, 0, []), snt2 K D, false, false, false, false⟩ A n c l a b wx)
      case first =>
        cases h8 : bitB D 8
        · have e1 : kin2 D = kin1 D := by unfold kin1 kin2; rw [h8]; rfl
          have e2 : snt2 K D = snt1 K D := by unfold snt1 snt2; rw [h8]; rfl
          unfold bitB at h8
          go_wp2_with fail
          go_meet
          rw [e1, e2]
          exact D1
        · have h4 : bitB D 4 = false := by
            cases h4 : bitB D 4
            · rfl
            · have := ((HD.out ▸ sesDo_cls K.ps V.st e).1 h4).1
              rw [h8] at this
              cases this
          have e0 : kin1 D = [] := by unfold kin1; rw [h4]; rfl
          have e0' : snt1 K D = [] := by unfold snt1; rw [h4]; rfl
          have e1 : kin2 D = [4] := by unfold kin2; rw [h4, h8]; rfl
          have e2 : snt2 K D = fpOut 4 [] := by unfold snt2; rw [h4, h8]; rfl
          rw [e0, e0'] at D1
          clear h4 e0 e0'
          unfold bitB at h8
          obtain ⟨At', nt', ct', Af', nf', cf', As', ns', cs', k1, k2, k3, k4, k5, k6, k7, k8, k9, k10, k11⟩ := D1
          obtain ⟨rfl, rfl, rfl, rfl, rfl, rfl⟩ := k6 rfl
          have z7 := k7.size
          have hlt7 := hlt.sm k7 hll hlg
          go_wp2_with fail
          refine (sendOut 4 none 0 0 [] q _ Af' nf' cf' _ hlt7 BS.none_ (by omega) k1).mono ?_
          rintro _ w9 ⟨rfl, At, nt, ct, As, ns, cs, hX, hI, hB, m9⟩
          go_wp2_with fail
          go_meet
          rw [e1, e2]
          exact DoMid.sent hwq hwr hwf hqr' hqf' hgq z7 k1 k4 k5 k7 k8 k9 k10 k11 hX hI hB m9
      case rest =>
        clear D1
        have D2 := hcut
        clear hcut
        obtain ⟨w8, hw8⟩ : ∃ x, x = wc := ⟨_, rfl⟩
        subst hw8
        go_upto_if 89 with fail
        go_cut [12, 13] (fun s12 s13 wx => DoMid w g q r f K VT ⟨e, V.st, T, doKinds D, doFlt D e (a, b, l), doSent K D e (a, b, l), false, false, false, false⟩ A n c l a b wx)
        case first =>
          cases h16 : bitB D 16
          · have e1 : doKinds D = kin2 D := by unfold doKinds kin2; rw [h16]; rfl
            have e2 : doSent K D e (a, b, l) = snt2 K D := by unfold doSent snt2; rw [h16]; rfl
            have e3 : doFlt D e (a, b, l) = (0, 0, []) := by unfold doFlt; rw [h16]; rfl
            unfold bitB at h16
            go_wp2_with fail
            go_meet
            rw [e1, e2, e3]
            exact D2
          · have h8 : bitB D 8 = false := by
              cases h8 : bitB D 8
              · rfl
              · have := (HD.out ▸ sesDo_cls K.ps V.st e).2 h8
                rw [h16] at this
                cases this
            have h4 : bitB D 4 = false := by
              cases h4 : bitB D 4
              · rfl
              · have := ((HD.out ▸ sesDo_cls K.ps V.st e).1 h4).2
                rw [h16] at this
                cases this
            have e0 : kin2 D = [] := by unfold kin2; rw [h4, h8]; rfl
            have e0' : snt2 K D = [] := by unfold snt2; rw [h4, h8]; rfl
            have e1 : doKinds D = [3] := by unfold doKinds; rw [h4, h8, h16]; rfl
            have e2 : doSent K D e (a, b, l) = fpOut 3 (npOut (fltE e (a, b, l)).1 (fltE e (a, b, l)).2.1 (fltE e (a, b, l)).2.2) := by unfold doSent; rw [h4, h8, h16]; rfl
            have e3 : doFlt D e (a, b, l) = fltE e (a, b, l) := by unfold doFlt; rw [h16]; rfl
            rw [e0, e0'] at D2
            have HE1 := Lib.hid e1
            have HE2 := Lib.hid e2
            have HE3 := Lib.hid e3
            clear h4 h8 e0 e0' e1 e2 e3
            unfold bitB at h16
            obtain ⟨At', nt', ct', Af', nf', cf', As', ns', cs', k1, k2, k3, k4, k5, k6, k7, k8, k9, k10, k11⟩ := D2
            obtain ⟨rfl, rfl, rfl, rfl, rfl, rfl⟩ := k6 rfl
            have z7 := k7.size
            have hlt7 := hlt.sm k7 hll hlg
            obtain ⟨Af, nf, cf, hfv, hnf, hbf, hfn⟩ := flt_val e a b A n c l k11
            obtain ⟨F, hF⟩ : ∃ F, fltE e (a, b, l) = F := ⟨_, rfl⟩
            rw [hF] at hfv hbf HE2 HE3
            have HFV := Lib.hid hfv
            clear hfv hF
            have f0 : w8.cell? ⟨f, 0, none⟩ = some (.int .i64 a) := k10.cell 0
            have f1 : w8.cell? ⟨f, 1, none⟩ = some (.int .i64 b) := k10.cell 1
            have f2 : w8.cell? ⟨f, 2, none⟩ = some (.slice A n c) := k10.cell 2
            go_wp2_with fail
            refine (fsmFault_any e a b A n c _).mono ?_
            rw [HFV.out]
            rintro _ w9 ⟨rfl, b9⟩
            have hO9 := k1.below b9 k1.lt
            have u4 : w9.cell? ⟨q, 4, none⟩ = some (.int .i64 0) := hO9.cell 4
            have u5 : w9.cell? ⟨q, 5, none⟩ = some (.int .i64 0) := hO9.cell 5
            have u6 : w9.cell? ⟨q, 6, none⟩ = some (.slice Af' nf' cf') := hO9.cell 6
            have v4 := hO9.frozen 4
            have v5 := hO9.frozen 5
            have v6 := hO9.frozen 6
            clear f0 f1 f2
            go_upto_region 18 with fail
            obtain ⟨w10, hw10⟩ : ∃ x, ((w9.setCell ⟨q, 4, none⟩ (.int .i64 F.1)).setCell ⟨q, 5, none⟩ (.int .i64 F.2.1)).setCell ⟨q, 6, none⟩ (.slice Af nf cf) = x := ⟨_, rfl⟩
            have hO10 : Blk w10 q 48 (outA ⟨e, V.st, T, [], F, [], false, false, false, false⟩ none 0 0 Af nf cf none 0 0) := by
              have := ((hO9.set_ 4 (.int .i64 F.1)).set_ 5 (.int .i64 F.2.1)).set_ 6 (.slice Af nf cf)
              rw [hw10] at this
              exact this
            have m90 := (((Sm.refl w9.heap.size [q] w9).setCell (p := ⟨q, 4, none⟩) (.inr (by simp)) (.int .i64 F.1)).setCell (p := ⟨q, 5, none⟩) (.inr (by simp)) (.int .i64 F.2.1)).setCell (p := ⟨q, 6, none⟩) (.inr (by simp)) (.slice Af nf cf)
            rw [hw10] at m90
            rw [hw10]
            clear hw10 u4 u5 u6 v4 v5 v6
            have z79 := b9.size
            have z90 := m90.size
            have m78 : Sm w8.heap.size [g] w8 w9 := Sm.of_below b9 (Nat.le_refl _)
            have hqn : ∀ x, x ≠ q → x ∉ [q] := fun x hx => by simpa using hx
            have hS9 := k8.below b9 k8.lt
            have hS10 := m90.blk hS9 hS9.lt (hqn _ hgq)
            have hR9 := k9.below b9 k9.lt
            have hR10 := m90.blk hR9 hR9.lt (hqn _ (Ne.symm hqr'))
            have hF9 := k10.below b9 k10.lt
            have hF10 := m90.blk hF9 hF9.lt (hqn _ (Ne.symm hqf'))
            have hl10 := (k11.smK m78).two m90 hO9 (outA_no8 _ _ _ _ _ _ _ _ _ _)
            have hb10 := (hbf.smK m78).two m90 hO9 (outA_no8 _ _ _ _ _ _ _ _ _ _)
            have m10 : Sm w.heap.size [g] w w10 := by
              have h1 := k7.below b9 z7
              exact ⟨m90.os.trans h1.os, m90.tape.trans h1.tape, m90.output.trans h1.output, Nat.le_trans h1.size m90.size, fun b hb hn => (m90.block b (by omega) (hqn _ (by omega))).trans (h1.block b hb hn)⟩
            have z10 := m10.size
            have hlt10 := hlt.sm m10 hll hlg
            clear hO9 hS9 hR9 hF9 m90 m78 k1 k2 k3 k4 k5 k6 k7 k8 k9 k10 k11 hbf b9
            have u4 : w10.cell? ⟨q, 4, none⟩ = some (.int .i64 F.1) := hO10.cell 4
            have u5 : w10.cell? ⟨q, 5, none⟩ = some (.int .i64 F.2.1) := hO10.cell 5
            have u6 : w10.cell? ⟨q, 6, none⟩ = some (.slice Af nf cf) := hO10.cell 6
            go_wp2_with fail
            refine (notPutX F.1 F.2.1 Af nf cf F.2.2 w10 (hb10.bs (fun b hb => hb.2.1)) (by omega)).mono ?_
            rintro _ w11 ⟨A11, n11, c11, E11, rfl, o11, b11⟩
            clear u4 u5 u6
            have m11 : Sm w10.heap.size [g] w10 w11 := Sm.of_below b11 (Nat.le_refl _)
            have hO11 := hO10.below b11 hO10.lt
            have hlt11 := hlt10.call b11
            have z11 := b11.size
            have hn11 : n11 ≤ 100000 := by have := o11.1; have := npOut_len F.1 F.2.1 F.2.2; omega
            go_wp2_with fail
            refine (sendOut 3 A11 n11 c11 (npOut F.1 F.2.1 F.2.2) q _ Af nf cf w11 hlt11 o11.bs hn11 hO11).mono ?_
            rintro _ w12 ⟨rfl, At, nt, ct, As, ns, cs, hX, hI, hB, m12⟩
            go_wp2_with fail
            go_meet
            rw [HE1.out, HE2.out, HE3.out]
            exact DoMid.sent hwq hwr hwf hqr' hqf' hgq (by omega) hO11 (hb10.smK m11) hnf (m10.below b11 z10) (hS10.below b11 hS10.lt) (hR10.below b11 hR10.lt) (hF10.below b11 hF10.lt) (hl10.smK m11) hX hI hB m12
        case rest =>
          clear D2
          obtain ⟨At, nt, ct, Af, nf, cf, As, ns, cs, k1, k2, k3, k4, k5, k6, k7, k8, k9, k10, k11⟩ := hcut
          clear k6 k10 k11
          have u22 : wc.cell? ⟨q, 22, none⟩ = some (.bool false) := k1.cell 22
          have u23 : wc.cell? ⟨q, 23, none⟩ = some (.bool false) := k1.cell 23
          have u24 : wc.cell? ⟨q, 24, none⟩ = some (.bool false) := k1.cell 24
          have u25 : wc.cell? ⟨q, 25, none⟩ = some (.bool false) := k1.cell 25
          have v22 := k1.frozen 22
          have v23 := k1.frozen 23
          have v24 := k1.frozen 24
          have v25 := k1.frozen 25
          go_upto_region 22 with fail
          obtain ⟨w10, hw10⟩ : ∃ x, (((wc.setCell ⟨q, 22, none⟩ (.bool (bits .and .i64 D 32 != 0))).setCell ⟨q, 23, none⟩ (.bool (bits .and .i64 D 64 != 0))).setCell ⟨q, 24, none⟩ (.bool (bits .and .i64 D 1 != 0))).setCell ⟨q, 25, none⟩ (.bool (bits .and .i64 D 2 != 0)) = x := ⟨_, rfl⟩
          obtain ⟨O, hOd⟩ : ∃ O, doOut K V e (a, b, l) = O := ⟨_, rfl⟩
          have hOe : O = ⟨e, V.st, T, doKinds D, doFlt D e (a, b, l), doSent K D e (a, b, l), bitB D 32, bitB D 64, bitB D 1, bitB D 2⟩ := by
            rw [← hOd, ← HT.out, ← HD.out]; rfl
          obtain ⟨C, hC⟩ : ∃ C, outA O At nt ct Af nf cf As ns cs = C := ⟨_, rfl⟩
          have hO10 : Blk w10 q 48 C := by
            have := (((k1.set_ 22 (.bool (bits .and .i64 D 32 != 0))).set_ 23 (.bool (bits .and .i64 D 64 != 0))).set_ 24 (.bool (bits .and .i64 D 1 != 0))).set_ 25 (.bool (bits .and .i64 D 2 != 0))
            rw [hw10] at this
            rw [← hC, hOe]
            exact this
          have hCs : C.size = 26 := by rw [← hC]; rfl
          have hCi : (Tryd.prog.info? 48).map (·.size) = some C.size := by rw [hCs]; exact out_info
          have hC1 : C.all (·.oneCell') = true := by rw [← hC]; kernel_rfl
          have o2 : OI wc w.heap.size At nt ct O.kinds := by rw [hOe]; exact k2
          have o3 : OB wc 5 w.heap.size As ns cs O.sent := by rw [hOe]; exact k3
          have o4 : BF wc (Un 0 wc.heap.size [g]) Af nf O.flt.2.2 := by rw [hOe]; exact k4
          clear k2 k3 k4 hOe
          have q1 := ((((Sm.refl wc.heap.size [q] wc).setCell (p := ⟨q, 22, none⟩) (.inr (by simp)) (.bool (bits .and .i64 D 32 != 0))).setCell (p := ⟨q, 23, none⟩) (.inr (by simp)) (.bool (bits .and .i64 D 64 != 0))).setCell (p := ⟨q, 24, none⟩) (.inr (by simp)) (.bool (bits .and .i64 D 1 != 0))).setCell (p := ⟨q, 25, none⟩) (.inr (by simp)) (.bool (bits .and .i64 D 2 != 0))
          rw [hw10] at q1
          rw [hw10]
          clear hw10 u22 u23 u24 u25 v22 v23 v24 v25
          have hqn : ∀ x, x ≠ q → x ∉ [q] := fun x hx => by simpa using hx
          have hS10 := q1.blk k8 k8.lt (hqn _ hgq)
          have hR10 := q1.blk k9 k9.lt (hqn _ (Ne.symm hqr'))
          have z7 := k7.size
          have z10 := q1.size
          have m10 : Sm w.heap.size [g] w w10 := ⟨q1.os.trans k7.os, q1.tape.trans k7.tape, q1.output.trans k7.output, Nat.le_trans k7.size q1.size, fun b hb hn => (q1.block b (by omega) (hqn _ (by omega))).trans (k7.block b hb hn)⟩
          have p4 := o4.two q1 k1 (outA_no8 _ _ _ _ _ _ _ _ _ _)
          have nqU : ∀ {A n c} {l : List UInt8}, OB wc 5 w.heap.size A n c l → OB w10 5 w.heap.size A n c l := by
            intro A n c l ho
            refine ⟨ho.1, own_keep ho.2 fun k hk => q1.block k (ho.2.lt k hk).2 (hqn _ ?_)⟩
            rintro rfl
            exact own_blk_ne ho.2 k1 (by decide) hk
          have nqI : ∀ {A n c} {l : List Int}, OI wc w.heap.size A n c l → OI w10 w.heap.size A n c l := by
            intro A n c l ho
            refine ⟨ho.1, own_keep ho.2 fun k hk => q1.block k (ho.2.lt k hk).2 (hqn _ ?_)⟩
            rintro rfl
            exact own_blk_ne ho.2 k1 (by decide) hk
          have p2 := nqI o2
          have p3 := nqU o3
          clear o2 o3 o4 k1 k7 k8 k9 q1 nqU nqI
          by_cases hT0 : T = 0
          case neg =>
            have t0 : (T == 0) = false := by simpa using hT0
            have HV := Lib.hid (show sesV K.ps V e = VT by
              unfold sesV
              rw [if_pos HE.out, HT.out, HD.out, if_neg hT0, HVT.out])
            clear hT0
            go_upto_region 24 with fail
            have HOUT := Lib.hid (show RetDo w g K (sesV K.ps V e) (doOut K V e (a, b, l)) (.returned (.agg C)) (w10.setRow r C) by
              rw [hOd]
              have zr : w10.heap.size ≤ (w10.setRow r C).heap.size := by rw [row_size]; exact Nat.le_refl _
              have rr : Sm w10.heap.size [r] w10 (w10.setRow r C) := (Sm.refl _ _ _).setRow (.inr (by simp)) C
              refine ⟨At, nt, ct, Af, nf, cf, As, ns, cs, by rw [hC], ⟨p2.1, own_keep p2.2 fun k hk => row_far _ _ _ ?_⟩, ⟨p3.1, own_keep p3.2 fun k hk => row_far _ _ _ ?_⟩, ?_, m10.setRow (.inl hwr) C, ?_⟩
              · rintro rfl
                exact own_blk_ne p2.2 hR10 (by decide) hk
              · rintro rfl
                exact own_blk_ne p3.2 hR10 (by decide) hk
              · exact p4.two rr hR10 (by decide)
              · rw [HV.out]; exact hS10.rowFar hgr C)
            rename_i hk
            have HKK := Lib.hid hk
            clear hk
            refine wp_region_lit ?_
            refine wpList_load_row rfl 48 (.tmp 7) rfl q (by rfl) 48 C (0, 0) _ hO10 Tryd.underlying48 rfl hCi ?_
            refine wpList_store_row rfl 48 (.tmp 6) (.tmp 139) rfl r C (by rfl) (by rfl) 48 #[.int .i64 0, .int .i64 0, .int .i64 0, .slice none 0 0, .int .i64 0, .int .i64 0, .slice none 0 0, .slice none 0 0, .slice none 0 0, .int .i64 0, .slice none 0 0, .int .u32 0, .int .i64 0, .int .i64 0, .bool false, .bool false, .int .u32 0, .int .u32 0, .slice none 0 0, .slice none 0 0, .slice none 0 0, .bool false, .bool false, .bool false, .bool false, .bool false] hR10 hCi hCs.symm hC1 ?_
            go_simp
            refine HKK.out _ _ (wp_ret ?_)
            exact bodyPost_ret (out_ret rfl _ _ r C hCs rfl (hR10.row _)) rfl HOUT.out
          have t0 : (T == 0) = true := by simpa using hT0
          have HV := Lib.hid (show sesV K.ps V e = ses0 by
            unfold sesV
            rw [if_pos HE.out, HT.out, if_pos hT0])
          clear hT0
          go_upto_region 23 with fail
          rename_i hk
          have HK23 := Lib.hid hk
          clear hk
          obtain ⟨wd2, hwd2⟩ : ∃ x, w10.drew = x := ⟨_, rfl⟩
          have bd2 : Below w10.heap.size w10 wd2 := by rw [← hwd2]; exact (Below.refl _ _).drew
          have hSd2 := hS10.below bd2 hS10.lt
          have HWD2 := Lib.hid hwd2
          have HNEW := Lib.hid (fun x => sesNew K x)
          obtain ⟨KC, hKC⟩ : ∃ x, x = sesC K ses0 := ⟨_, rfl⟩
          clear hwd2
          refine wp_region_held_drew (S := (fun w' => ∃ V', Blk w' g 70 (sesC K V'))) (by kernel_rfl) ?_ (fun hHeld => ?_)
          · rw [HWD2.out]; exact ⟨_, hSd2⟩
          rw [HWD2.out]
          rw [HWD2.out] at hHeld
          refine wpAnyH_take (i := 0) (v := ?m12_v0) rfl (by kernel_rfl) (by kernel_rfl) (by kernel_rfl) (by intro _ _ _ h; exact h) (Or.inl ⟨by rfl, ?m12_hy0⟩) (by assumption) ?m12_rest0
          case m12_hy0 => (intro w hSw; (try dsimp only at hSw); go_simp; try with_reducible rfl)
          try simp only [Act.put, List.getElem_toArray, List.getElem_cons_succ, List.getElem_cons_zero, List.setIfInBounds_toArray, List.set_cons_zero, List.set_cons_succ]
          refine wpAnyH_take (i := 1) (v := ?m13_v1) rfl (by kernel_rfl) (by kernel_rfl) (by kernel_rfl) (by intro _ _ _ h; exact h) (Or.inl ⟨by rfl, ?m13_hy1⟩) (by assumption) ?m13_rest1
          case m13_hy1 => (intro w hSw; (try dsimp only at hSw); go_simp; try with_reducible rfl)
          try simp only [Act.put, List.getElem_toArray, List.getElem_cons_succ, List.getElem_cons_zero, List.setIfInBounds_toArray, List.set_cons_zero, List.set_cons_succ]
          refine wpAnyH_take (i := 2) (v := ?m14_v2) rfl (by kernel_rfl) (by kernel_rfl) (by kernel_rfl) (by intro _ _ _ h; exact h) (Or.inl ⟨by rfl, ?m14_hy2⟩) (by assumption) ?m14_rest2
          case m14_hy2 => (intro w hSw; (try dsimp only at hSw); go_simp; try with_reducible rfl)
          try simp only [Act.put, List.getElem_toArray, List.getElem_cons_succ, List.getElem_cons_zero, List.setIfInBounds_toArray, List.set_cons_zero, List.set_cons_succ]
          refine wpAnyH_take (i := 3) (v := ?m15_v3) rfl (by kernel_rfl) (by kernel_rfl) (by kernel_rfl) (by intro _ _ _ h; exact h) (Or.inl ⟨by rfl, ?m15_hy3⟩) (by assumption) ?m15_rest3
          case m15_hy3 => (intro w hSw; (try dsimp only at hSw); go_simp; try with_reducible rfl)
          try simp only [Act.put, List.getElem_toArray, List.getElem_cons_succ, List.getElem_cons_zero, List.setIfInBounds_toArray, List.set_cons_zero, List.set_cons_succ]
          refine wpAnyH_take (i := 4) (v := ?m16_v4) rfl (by kernel_rfl) (by kernel_rfl) (by kernel_rfl) (by intro _ _ _ h; exact h) (Or.inl ⟨by rfl, ?m16_hy4⟩) (by assumption) ?m16_rest4
          case m16_hy4 => (intro w hSw; (try dsimp only at hSw); obtain ⟨V', hV'⟩ := hSw; have c0 : w.cell? ⟨g, 0, none⟩ = some (.int .u32 K.la) := hV'.cell 0; have c1 : w.cell? ⟨g, 1, none⟩ = some (.int .u32 K.li) := hV'.cell 1; have c2 : w.cell? ⟨g, 2, none⟩ = some (.int .u32 K.lx) := hV'.cell 2; have c3 : w.cell? ⟨g, 3, none⟩ = some (.int .i64 K.lh) := hV'.cell 3; go_simp; try with_reducible rfl)
          try simp only [Act.put, List.getElem_toArray, List.getElem_cons_succ, List.getElem_cons_zero, List.setIfInBounds_toArray, List.set_cons_zero, List.set_cons_succ]
          refine wpAnyH_take (i := 5) (v := ?m17_v5) rfl (by kernel_rfl) (by kernel_rfl) (by kernel_rfl) (by intro _ _ _ h; exact h) (Or.inl ⟨by rfl, ?m17_hy5⟩) (by assumption) ?m17_rest5
          case m17_hy5 => (intro w hSw; (try dsimp only at hSw); go_simp; try with_reducible rfl)
          try simp only [Act.put, List.getElem_toArray, List.getElem_cons_succ, List.getElem_cons_zero, List.setIfInBounds_toArray, List.set_cons_zero, List.set_cons_succ]
          refine wpAnyH_take (i := 6) (v := ?m18_v6) rfl (by kernel_rfl) (by kernel_rfl) (by kernel_rfl) (by intro _ _ _ h; exact h) (Or.inl ⟨by rfl, ?m18_hy6⟩) (by assumption) ?m18_rest6
          case m18_hy6 => (intro w hSw; (try dsimp only at hSw); go_simp; try with_reducible rfl)
          try simp only [Act.put, List.getElem_toArray, List.getElem_cons_succ, List.getElem_cons_zero, List.setIfInBounds_toArray, List.set_cons_zero, List.set_cons_succ]
          refine wpAnyH_take (i := 7) (v := ?m19_v7) rfl (by kernel_rfl) (by kernel_rfl) (by kernel_rfl) (by intro _ _ _ h; exact h) (Or.inl ⟨by rfl, ?m19_hy7⟩) (by assumption) ?m19_rest7
          case m19_hy7 => (intro w hSw; (try dsimp only at hSw); go_simp; try with_reducible rfl)
          try simp only [Act.put, List.getElem_toArray, List.getElem_cons_succ, List.getElem_cons_zero, List.setIfInBounds_toArray, List.set_cons_zero, List.set_cons_succ]
          refine wpAnyH_take (i := 8) (v := ?m20_v8) rfl (by kernel_rfl) (by kernel_rfl) (by kernel_rfl) (by intro _ _ _ h; exact h) (Or.inl ⟨by rfl, ?m20_hy8⟩) (by assumption) ?m20_rest8
          case m20_hy8 => (intro w hSw; (try dsimp only at hSw); obtain ⟨V', hV'⟩ := hSw; have c4 : w.cell? ⟨g, 4, none⟩ = some (.int .u32 K.pa) := hV'.cell 4; have c5 : w.cell? ⟨g, 5, none⟩ = some (.int .u32 K.pd) := hV'.cell 5; have c6 : w.cell? ⟨g, 6, none⟩ = some (.int .i64 K.pl) := hV'.cell 6; have c7 : w.cell? ⟨g, 7, none⟩ = some (.slice K.Ai K.ni K.ci) := hV'.cell 7; have c8 : w.cell? ⟨g, 8, none⟩ = some (.slice K.Ao K.no K.co) := hV'.cell 8; go_simp; try with_reducible rfl)
          try simp only [Act.put, List.getElem_toArray, List.getElem_cons_succ, List.getElem_cons_zero, List.setIfInBounds_toArray, List.set_cons_zero, List.set_cons_succ]
          refine wpAnyH_take (i := 9) (v := ?m21_v9) rfl (by kernel_rfl) (by kernel_rfl) (by kernel_rfl) (by intro _ _ _ h; exact h) (Or.inl ⟨by rfl, ?m21_hy9⟩) (by assumption) ?m21_rest9
          case m21_hy9 => (intro w hSw; (try dsimp only at hSw); go_simp; try with_reducible rfl)
          try simp only [Act.put, List.getElem_toArray, List.getElem_cons_succ, List.getElem_cons_zero, List.setIfInBounds_toArray, List.set_cons_zero, List.set_cons_succ]
          refine wpAnyH_take (i := 10) (v := ?m22_v10) rfl (by kernel_rfl) (by kernel_rfl) (by kernel_rfl) (by intro _ _ _ h; exact h) (Or.inl ⟨by rfl, ?m22_hy10⟩) (by assumption) ?m22_rest10
          case m22_hy10 => (intro w hSw; (try dsimp only at hSw); go_simp; try with_reducible rfl)
          try simp only [Act.put, List.getElem_toArray, List.getElem_cons_succ, List.getElem_cons_zero, List.setIfInBounds_toArray, List.set_cons_zero, List.set_cons_succ]
          refine wpAnyH_take (i := 11) (v := ?m23_v11) rfl (by kernel_rfl) (by kernel_rfl) (by kernel_rfl) (by intro _ _ _ h; exact h) (Or.inl ⟨by rfl, ?m23_hy11⟩) (by assumption) ?m23_rest11
          case m23_hy11 => (intro w hSw; (try dsimp only at hSw); go_simp; try with_reducible rfl)
          try simp only [Act.put, List.getElem_toArray, List.getElem_cons_succ, List.getElem_cons_zero, List.setIfInBounds_toArray, List.set_cons_zero, List.set_cons_succ]
          refine wpAnyH_take (i := 12) (v := ?m24_v12) rfl (by kernel_rfl) (by kernel_rfl) (by kernel_rfl) (by intro _ _ _ h; exact h) (Or.inl ⟨by rfl, ?m24_hy12⟩) (by assumption) ?m24_rest12
          case m24_hy12 => (intro w hSw; (try dsimp only at hSw); obtain ⟨V', hV'⟩ := hSw; have c9 : w.cell? ⟨g, 9, none⟩ = some (.bool K.ps) := hV'.cell 9; go_simp; try with_reducible rfl)
          try simp only [Act.put, List.getElem_toArray, List.getElem_cons_succ, List.getElem_cons_zero, List.setIfInBounds_toArray, List.set_cons_zero, List.set_cons_succ]
          refine wpAnyH_ready (rs := [13]) (by kernel_rfl) (by simp) ?_
          refine AllReadyH.cons rfl (fun K hK => ?_) AllReadyH.nil
          go_simp
          go_wp2_with (go_at_call 17; refine (HNEW.out _).mono ?_; rw [← hKC]; rintro _ w12 ⟨q2, rfl, hq2, hN, b12⟩; have hS12 := hSd2.below b12 hSd2.lt)
          refine hK.out _ _ ?_ (fun hHeld => ?_)
          · try dsimp only
            exact ⟨_, hS12⟩
          clear hK K
          refine wpAnyH_take (i := 14) (v := ?m25_v14) rfl (by kernel_rfl) (by kernel_rfl) (by kernel_rfl) (by intro _ _ _ h; exact h) (Or.inl ⟨by rfl, ?m25_hy14⟩) (by assumption) ?m25_rest14
          case m25_hy14 => (intro w hSw; (try dsimp only at hSw); go_simp; try with_reducible rfl)
          try simp only [Act.put, List.getElem_toArray, List.getElem_cons_succ, List.getElem_cons_zero, List.setIfInBounds_toArray, List.set_cons_zero, List.set_cons_succ]
          refine wpAnyH_ready (rs := [15]) (by kernel_rfl) (by simp) ?_
          refine AllReadyH.cons rfl (fun K hK => ?_) AllReadyH.nil
          refine step_load_row rfl 70 (.tmp 136) rfl q2 (by rfl) 70 KC _ hN Tryd.underlying70 rfl (by rw [hKC]; exact ses_info) ?_
          refine hK.out _ _ ?_ (fun hHeld => ?_)
          · try dsimp only
            exact ⟨_, hS12⟩
          clear hK K
          refine wpAnyH_take (i := 16) (v := ?m26_v16) rfl (by kernel_rfl) (by kernel_rfl) (by kernel_rfl) (by intro _ _ _ h; exact h) (Or.inl ⟨by rfl, ?m26_hy16⟩) (by assumption) ?m26_rest16
          case m26_hy16 => (intro w hSw; (try dsimp only at hSw); go_simp; try with_reducible rfl)
          try simp only [Act.put, List.getElem_toArray, List.getElem_cons_succ, List.getElem_cons_zero, List.setIfInBounds_toArray, List.set_cons_zero, List.set_cons_succ]
          refine wpAnyH_ready (rs := [17]) (by kernel_rfl) (by simp) ?_
          refine AllReadyH.cons rfl (fun K hK => ?_) AllReadyH.nil
          refine step_row rfl 70 (.tmp 138) (.tmp 137) rfl g KC (by rfl) (by rfl) 70 _ hS12 (by rw [hKC]; exact ses_info) (by rw [hKC]; rfl) (by rw [hKC]; kernel_rfl) ?_
          refine hK.out _ _ ?_ (fun hHeld => ?_)
          · try dsimp only
            exact ⟨ses0, by have := hS12.row KC; rw [hKC] at this; rw [hKC]; exact this⟩
          clear hK K
          refine wpAnyH_done (by kernel_rfl) ?_ _
          refine HK23.out _ _ ?_
          have bb := btr bd2 b12 bd2.size
          obtain ⟨w13, hw13⟩ : ∃ x, w12.setRow g KC = x := ⟨_, rfl⟩
          have z0 := m10.size
          have zb := bb.size
          have r13 : Sm w10.heap.size [g] w10 w13 := by rw [← hw13]; exact (Sm.of_below bb (Nat.le_refl _)).setRow (.inr (by simp)) KC
          have hS13 : Blk w13 g 70 (sesC K ses0) := by rw [← hw13, ← hKC]; exact hS12.row KC
          rw [hw13]
          have hO13 := r13.blk hO10 hO10.lt (by simpa using Ne.symm hgq)
          have hR13 := r13.blk hR10 hR10.lt (by simpa using Ne.symm hgr)
          have m13 := m10.trans (r13.less z0)
          have p13 := p4.smK r13
          have ng : ∀ x, x ≠ g → x ∉ [g] := fun x hx => by simpa using hx
          have p2' : OI w13 w.heap.size At nt ct O.kinds := ⟨p2.1, own_keep p2.2 fun k hk => r13.block k (p2.2.lt k hk).2 (ng _ (by have := (p2.2.lt k hk).1; omega))⟩
          have p3' : OB w13 5 w.heap.size As ns cs O.sent := ⟨p3.1, own_keep p3.2 fun k hk => r13.block k (p3.2.lt k hk).2 (ng _ (by have := (p3.2.lt k hk).1; omega))⟩
          clear hw13 hO10 hR10 hS10 hS12 hSd2 bd2 b12 bb m10 p4 p2 p3 hN r13 hHeld HK23 HNEW HWD2
          go_upto_region 24 with fail
          have HOUT := Lib.hid (show RetDo w g K (sesV K.ps V e) (doOut K V e (a, b, l)) (.returned (.agg C)) (w13.setRow r C) by
            rw [hOd]
            have rr : Sm w13.heap.size [r] w13 (w13.setRow r C) := (Sm.refl _ _ _).setRow (.inr (by simp)) C
            refine ⟨At, nt, ct, Af, nf, cf, As, ns, cs, by rw [hC], ⟨p2'.1, own_keep p2'.2 fun k hk => row_far _ _ _ ?_⟩, ⟨p3'.1, own_keep p3'.2 fun k hk => row_far _ _ _ ?_⟩, ?_, m13.setRow (.inl hwr) C, ?_⟩
            · rintro rfl
              exact own_blk_ne p2'.2 hR13 (by decide) hk
            · rintro rfl
              exact own_blk_ne p3'.2 hR13 (by decide) hk
            · exact p13.two rr hR13 (by decide)
            · rw [HV.out]; exact hS13.rowFar hgr C)
          rename_i hk
          have HKK := Lib.hid hk
          clear hk
          refine wp_region_lit ?_
          refine wpList_load_row rfl 48 (.tmp 7) rfl q (by rfl) 48 C (0, 0) _ hO13 Tryd.underlying48 rfl hCi ?_
          refine wpList_store_row rfl 48 (.tmp 6) (.tmp 139) rfl r C (by rfl) (by rfl) 48 #[.int .i64 0, .int .i64 0, .int .i64 0, .slice none 0 0, .int .i64 0, .int .i64 0, .slice none 0 0, .slice none 0 0, .slice none 0 0, .int .i64 0, .slice none 0 0, .int .u32 0, .int .i64 0, .int .i64 0, .bool false, .bool false, .int .u32 0, .int .u32 0, .slice none 0 0, .slice none 0 0, .slice none 0 0, .bool false, .bool false, .bool false, .bool false, .bool false] hR13 hCi hCs.symm hC1 ?_
          go_simp
          refine HKK.out _ _ (wp_ret ?_)
          exact bodyPost_ret (out_ret rfl _ _ r C hCs rfl (hR13.row _)) rfl HOUT.out
end Go.Proofs.YthgjknmfghjioaaDoor
