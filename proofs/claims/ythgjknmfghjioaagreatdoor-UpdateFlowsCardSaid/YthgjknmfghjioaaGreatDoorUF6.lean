/- Joined texts (UpdE AttDE AttSW). Conditions: those of the theorems. -/
import Derived.Test.YthgjknmfghjioaaGreatDoorProg
import Derived.WalkKit
import Derived.WalkSpells
import Derived.WalkLawsBesides
import Derived.Outline
import Derived.Deep.QuietTactic
import Derived.BigQuiet
import Derived.Handy
import Derived.Lib.Hide
import Derived.Test.YthgjknmfghjioaaGreatDoorUF1
import Derived.Test.YthgjknmfghjioaaGreatDoorUF2
import Derived.Test.YthgjknmfghjioaaGreatDoorUF3
import Derived.Test.YthgjknmfghjioaaGreatDoorUF5
import Derived.Laws.Cover4
import Derived.OrdersHeld
import Derived.Deep.RegionHeld
import Derived.Deep.DeepCutAuto
import Derived.Deep.CutBlock
import Derived.Test.YthgjknmfghjioaaGreatDoorTki
namespace Go.Proofs.YthgjknmfghjioaaGreatDoor
open Go.RowKit
set_option linter.unusedSimpArgs false
set_option linter.unusedVariables false
theorem upd_info1 : (Tryz.prog.info? 77).map (·.size) = some 13 := by kernel_rfl
theorem upd_ret {fn : Func} {p r : Tmp} (h : fn.results = #[.cell p 77, .cell r 88]) (tmps : Array Value) (w : World) (g k : Nat) (x0 x1 x2 x3 x4 x5 x6 x7 x8 x9 x10 x11 x12 a b c : Value)
  (hp : tmps.getD p undef = .pointer (some ⟨g, 0, none⟩)) (hr : tmps.getD r undef = .pointer (some ⟨k, 0, none⟩)) (hB : Blk w g 77 #[x0, x1, x2, x3, x4, x5, x6, x7, x8, x9, x10, x11, x12]) (hF : Blk w k 88 #[a, b, c]) :
  (results fn tmps).run Tryz.prog w = .ok (.tuple #[.agg #[x0, x1, x2, x3, x4, x5, x6, x7, x8, x9, x10, x11, x12], .agg #[a, b, c]]) w := by
 have hp' : tmps[p]?.getD undef = .pointer (some ⟨g, 0, none⟩) := by simpa using hp
 have hr' : tmps[r]?.getD undef = .pointer (some ⟨k, 0, none⟩) := by simpa using hr
 have h1 := run_loadVar_row (P := Tryz.prog) w g 77 77 #[x0, x1, x2, x3, x4, x5, x6, x7, x8, x9, x10, x11, x12] (0, 0) _ hB Tryz.underlying77 rfl upd_info1
 have h2 := run_loadVar_row (P := Tryz.prog) w k 88 88 #[a, b, c] (0, 0) _ hF Tryz.underlying88 rfl fltA_info
 simp [results, h, hp', hr', asAddr, h1, h2]
theorem upd_store {w : World} {q : Nat} {a0 a1 a2 a3 a4 a5 a6 a7 a8 a9 a10 a11 a12 x0 x1 x2 x3 x4 x5 x6 x7 x8 x9 x10 x11 x12 : Value} (h : Blk w q 77 #[a0, a1, a2, a3, a4, a5, a6, a7, a8, a9, a10, a11, a12]) : Blk (World.setCell (World.setCell (World.setCell (World.setCell (World.setCell (World.setCell (World.setCell (World.setCell (World.setCell (World.setCell (World.setCell (World.setCell (World.setCell w ⟨q, 0, none⟩ x0) ⟨q, 1, none⟩ x1) ⟨q, 2, none⟩ x2) ⟨q, 3, none⟩ x3) ⟨q, 4, none⟩ x4) ⟨q, 5, none⟩ x5) ⟨q, 6, none⟩ x6) ⟨q, 7, none⟩ x7) ⟨q, 8, none⟩ x8) ⟨q, 9, none⟩ x9) ⟨q, 10, none⟩ x10) ⟨q, 11, none⟩ x11) ⟨q, 12, none⟩ x12) q 77 #[x0, x1, x2, x3, x4, x5, x6, x7, x8, x9, x10, x11, x12] := by
 have hE := ((((((((((((h.set_ 0 x0).set_ 1 x1).set_ 2 x2).set_ 3 x3).set_ 4 x4).set_ 5 x5).set_ 6 x6).set_ 7 x7).set_ 8 x8).set_ 9 x9).set_ 10 x10).set_ 11 x11).set_ 12 x12
 simp only [List.setIfInBounds_toArray, List.set_cons_succ, List.set_cons_zero] at hE
 exact hE
theorem upd_grown {q : Nat} {x0 x1 x2 x3 x4 x5 x6 x7 x8 x9 x10 x11 x12 : Value} (w : World) : w.grownBy (World.setCell (World.setCell (World.setCell (World.setCell (World.setCell (World.setCell (World.setCell (World.setCell (World.setCell (World.setCell (World.setCell (World.setCell (World.setCell w ⟨q, 0, none⟩ x0) ⟨q, 1, none⟩ x1) ⟨q, 2, none⟩ x2) ⟨q, 3, none⟩ x3) ⟨q, 4, none⟩ x4) ⟨q, 5, none⟩ x5) ⟨q, 6, none⟩ x6) ⟨q, 7, none⟩ x7) ⟨q, 8, none⟩ x8) ⟨q, 9, none⟩ x9) ⟨q, 10, none⟩ x10) ⟨q, 11, none⟩ x11) ⟨q, 12, none⟩ x12) (some q) := by
 repeat' (refine only_setCell ?_ (.inl rfl) _)
 exact World.grownBy.refl w _
/-- Attributes are stored into an update. -/
theorem att_in {w : World} {q : Nat} {a0 a1 a2 a3 a4 a5 a6 a7 a8 a9 a10 a11 a12 x0 x1 x2 x3 x4 x5 x6 x7 x8 x9 x10 : Value} (h : Blk w q 77 #[a0, a1, a2, a3, a4, a5, a6, a7, a8, a9, a10, a11, a12]) : Blk (World.setCell (World.setCell (World.setCell (World.setCell (World.setCell (World.setCell (World.setCell (World.setCell (World.setCell (World.setCell (World.setCell w ⟨q, 1, none⟩ x0) ⟨q, 2, none⟩ x1) ⟨q, 3, none⟩ x2) ⟨q, 4, none⟩ x3) ⟨q, 5, none⟩ x4) ⟨q, 6, none⟩ x5) ⟨q, 7, none⟩ x6) ⟨q, 8, none⟩ x7) ⟨q, 9, none⟩ x8) ⟨q, 10, none⟩ x9) ⟨q, 11, none⟩ x10) q 77 #[a0, x0, x1, x2, x3, x4, x5, x6, x7, x8, x9, x10, a12] := by
 have hE := ((((((((((h.set_ 1 x0).set_ 2 x1).set_ 3 x2).set_ 4 x3).set_ 5 x4).set_ 6 x5).set_ 7 x6).set_ 8 x7).set_ 9 x8).set_ 10 x9).set_ 11 x10
 simp only [List.setIfInBounds_toArray, List.set_cons_succ, List.set_cons_zero] at hE
 exact hE
theorem att_in_grown {q : Nat} {x0 x1 x2 x3 x4 x5 x6 x7 x8 x9 x10 : Value} (w : World) : w.grownBy (World.setCell (World.setCell (World.setCell (World.setCell (World.setCell (World.setCell (World.setCell (World.setCell (World.setCell (World.setCell (World.setCell w ⟨q, 1, none⟩ x0) ⟨q, 2, none⟩ x1) ⟨q, 3, none⟩ x2) ⟨q, 4, none⟩ x3) ⟨q, 5, none⟩ x4) ⟨q, 6, none⟩ x5) ⟨q, 7, none⟩ x6) ⟨q, 8, none⟩ x7) ⟨q, 9, none⟩ x8) ⟨q, 10, none⟩ x9) ⟨q, 11, none⟩ x10) (some q) := by
 repeat' (refine only_setCell ?_ (.inl rfl) _)
 exact World.grownBy.refl w _
set_option maxHeartbeats 1000000 in
set_option maxRecDepth 100000 in
theorem updFault (s : Int) (A : Option Addr) (n c : Nat) (w : World) :
  Calls Tryz.prog 90 #[.int .i64 s, .slice A n c] w fun en w' => en = .returned (.agg #[.int .i64 3, .int .i64 s, .slice A n c]) ∧ Below w.heap.size w w' := by
 have hB := Blk.new w 88 #[.int .i64 0, .int .i64 0, .slice none 0 0]
 have c0 := hB.cell 0
 have c1 := hB.cell 1
 have c2 := hB.cell 2
 have f0 := hB.frozen 0
 have f1 := hB.frozen 1
 have f2 := hB.frozen 2
 go_enter Tryz.func90, Tryz.ntmps90
 go_wp2_with fail
 exact bodyPost_ret (fltA_ret rfl _ _ w.heap.size _ _ _ rfl (Blk.new w 88 #[.int .i64 3, .int .i64 s, .slice A n c])) rfl ⟨rfl, (Below.refl _ _).alloc (Nat.le_refl _) _⟩
def mk4 (w : World) : World := w.alloc (.cells #[.int .i64 1, .int .i64 2, .int .i64 3, .int .i64 5] 3)
theorem missK_le (ks : List Int) (inner : Bool) : missK ks inner = 0 ∨ missK ks inner = 1 ∨ missK ks inner = 2 ∨ missK ks inner = 3 ∨ missK ks inner = 5 := by
 unfold missK
 repeat' (first | split | simp)
set_option maxHeartbeats 4000000 in
set_option maxRecDepth 100000 in
theorem updMissing (A : Option Addr) (n c : Nat) (ks : List Int) (inner : Bool) (w : World) (h : Reads w w.heap.size 1 A n (iv ks)) (hl : n = ks.length) (hn : n ≤ 100000) :
  Calls Tryz.prog 94 #[.slice A n c, .bool inner] w fun en w' => en = .returned (.int .u8 (missK ks inner)) ∧ Below w.heap.size w w' := by
 have hX := Blk.new w 3 #[.int .i64 1, .int .i64 2, .int .i64 3, .int .i64 5]
 have x0 := hX.cell 0
 have x1 := hX.cell 1
 have x2 := hX.cell 2
 have x3 := hX.cell 3
 have b0 := (Below.refl w.heap.size w).alloc (Nat.le_refl _) (.cells #[.int .i64 1, .int .i64 2, .int .i64 3, .int .i64 5] 3)
 have h2 := (h.alloc (Nat.le_refl _) (.cells #[.int .i64 1, .int .i64 2, .int .i64 3, .int .i64 5] 3))
 have HC := Lib.hid (fun (x : Int) => containsI A n c ks x _ _ h2 hl (by omega))
 have HM := Lib.hid (show missK ks inner = if hasN ks 1 = false then 1 else if hasN ks 2 = false then 2 else if hasN ks 3 = false then 3 else if inner = true ∧ hasN ks 5 = false then 5 else 0 from rfl)
 obtain ⟨m, hm⟩ : ∃ m, missK ks inner = m := ⟨_, rfl⟩
 rw [hm] at HM ⊢
 have C1 := Lib.hid (HC.out 1)
 have C2 := Lib.hid (HC.out 2)
 have C3 := Lib.hid (HC.out 3)
 have C5 := Lib.hid (HC.out 5)
 obtain ⟨k1, hk1⟩ : ∃ x, hasN ks 1 = x := ⟨_, rfl⟩
 obtain ⟨k2, hk2⟩ : ∃ x, hasN ks 2 = x := ⟨_, rfl⟩
 obtain ⟨k3, hk3⟩ : ∃ x, hasN ks 3 = x := ⟨_, rfl⟩
 obtain ⟨k5, hk5⟩ : ∃ x, hasN ks 5 = x := ⟨_, rfl⟩
 rw [hk1] at C1 HM
 rw [hk2] at C2 HM
 rw [hk3] at C3 HM
 rw [hk5] at C5 HM
 clear HC hk1 hk2 hk3 hk5 hm hl h2 h hn
 go_enter Tryz.func94, Tryz.ntmps94
 go_wp2_with fail
 refine wp_loop_rounds 5 ?_
 rw [rounds_succ]
 go_wp2_with fail
 refine C1.out.mono ?_
 rintro _ _ ⟨rfl, rfl⟩
 cases k1
 ·have HE := Lib.hid (show m = 1 by rw [HM.out]; simp)
  go_wp2_with fail
  go_ret
  exact ⟨by rw [HE.out]; rfl, b0⟩
 go_wp2_with fail
 rw [rounds_succ]
 go_wp2_with fail
 refine C2.out.mono ?_
 rintro _ _ ⟨rfl, rfl⟩
 cases k2
 ·have HE := Lib.hid (show m = 2 by rw [HM.out]; simp)
  go_wp2_with fail
  go_ret
  exact ⟨by rw [HE.out]; rfl, b0⟩
 go_wp2_with fail
 rw [rounds_succ]
 go_wp2_with fail
 refine C3.out.mono ?_
 rintro _ _ ⟨rfl, rfl⟩
 cases k3
 ·have HE := Lib.hid (show m = 3 by rw [HM.out]; simp)
  go_wp2_with fail
  go_ret
  exact ⟨by rw [HE.out]; rfl, b0⟩
 go_wp2_with fail
 rw [rounds_succ]
 cases inner
 ·have HE := Lib.hid (show m = 0 by rw [HM.out]; simp)
  go_wp2_with fail
  rw [rounds_succ]
  go_wp2_with fail
  go_ret
  exact ⟨by rw [HE.out]; rfl, b0⟩
 go_wp2_with fail
 refine C5.out.mono ?_
 rintro _ _ ⟨rfl, rfl⟩
 cases k5
 ·have HE := Lib.hid (show m = 5 by rw [HM.out]; simp)
  go_wp2_with fail
  go_ret
  exact ⟨by rw [HE.out]; rfl, b0⟩
 have HE := Lib.hid (show m = 0 by rw [HM.out]; simp)
 go_wp2_with fail
 rw [rounds_succ]
 go_wp2_with fail
 go_ret
 exact ⟨by rw [HE.out]; rfl, b0⟩
theorem pfxs_len : ∀ (f : Nat) (l : List UInt8) (ps : List Pfx), l.length ≤ f → pfxs l = some ps → ps.length ≤ l.length := by
 intro f
 induction f with
 | zero =>
  intro l ps hl h
  have e : l = [] := List.eq_nil_of_length_eq_zero (by omega)
  subst e
  rw [pfxs_nil] at h
  injection h with h
  subst h
  simp
 | succ f ih =>
  intro l ps hl h
  cases l with
  | nil =>
   rw [pfxs_nil] at h
   injection h with h
   subst h
   simp
  | cons c l =>
   cases h1 : pfx1 (c :: l) with
   | none => rw [pfxs_no (by simp) h1] at h; cases h
   | some x =>
    obtain ⟨p, t⟩ := x
    have h2 := pfx1_len h1
    rw [pfxs_yes h1] at h
    cases h3 : pfxs t with
    | none => rw [h3] at h; cases h
    | some qs =>
     rw [h3] at h
     injection h with h
     have h4 := ih t qs (by omega) h3
     rw [← h, List.length_cons]
     omega
theorem tkOut_le5 (l : List UInt8) (s : Bool) (k : Int) : (tkOut l s k).length ≤ l.length := tkOut_le l s k
/-- What a reading hands back; nothing of it lies in the blocks of 'ex'. -/
def RetUX (w : World) (ex : List Nat) (r : Except FtA Upd) (e : Ending) (w' : World) : Prop := Below w.heap.size w w' ∧ match r with
 | .error f => ∃ (A : Option Addr) (n c : Nat), e = .returned (.tuple #[.agg #[.slice none 0 0, .int .i64 0, .slice none 0 0, .int .u32 0, .int .i64 0, .int .i64 0, .bool false, .bool false, .int .u32 0, .int .u32 0, .slice none 0 0, .slice none 0 0, .slice none 0 0], .agg #[.int .i64 3, .int .i64 f.1, .slice A n c]]) ∧ BF w' (Ex w' ex) A n f.2 ∧ n ≤ c
 | .ok u => ∃ (Ag : Option Addr) (ng cg : Nat) (A : Option Addr) (n c : Nat) (A1 : Option Addr) (n1 c1 : Nat) (A2 : Option Addr) (n2 c2 : Nat) (An : Option Addr) (nn cn : Nat), e = .returned (.tuple #[.agg #[.slice Ag ng cg, .int .i64 u.a.origin, .slice A n c, .int .u32 u.a.next, .int .i64 u.a.med, .int .i64 u.a.pref, .bool u.a.atomic, .bool u.a.hasAggr, .int .u32 u.a.aggrAS, .int .u32 u.a.aggrAddr, .slice A1 n1 c1, .slice A2 n2 c2, .slice An nn cn], .agg #[.int .i64 0, .int .i64 0, .slice none 0 0]]) ∧ DL rPfx 2 w' (Ex w' ex) Ag ng u.gone ∧ DL rSeg 2 w' (Ex w' ex) A n u.a.path ∧ NF w' (Ex w' ex) A1 n1 u.a.comms ∧ DL rRaw 3 w' (Ex w' ex) A2 n2 u.a.raws ∧ DL rPfx 2 w' (Ex w' ex) An nn u.news ∧ ((rightA u.a.path = true ∨ u.a.path = []) ∧ u.a.comms.length ≤ 32 ∧ u.a.raws.length ≤ 8 ∧ ∀ y ∈ u.a.raws, y.2.2.length ≤ 64) ∧ u.gone.length ≤ 100000 ∧ u.news.length ≤ 100000
theorem BF.oneU {w : World} {q : Nat} {T : TypeId} {m : Int} (h : Blk w q T #[.int .u8 m]) (h0 : 0 ≤ m) (h1 : m ≤ 255) : BF w (fun b => b = q) (some ⟨q, 0, none⟩) 1 [ub m] := by
 refine ⟨rfl, rfl, fun _ => ⟨q, 0, rfl, rfl, fun j u hu => ?_⟩⟩
 rw [Nat.zero_add, h.cell]
 rw [show bv [ub m] = [Value.int .u8 m] by unfold bv; simp only [List.map_cons, List.map_nil]; rw [ub_toNat h0 h1]] at hu
 simpa using hu
/-- What an update's slices say while it is read. -/
def UA (w : World) (S : Nat → Prop) (Ag : Option Addr) (ng : Nat) (gl : List Pfx) (A : Option Addr) (n : Nat) (path : List Seg) (A1 : Option Addr) (n1 : Nat) (comms : List Int) (A2 : Option Addr) (n2 : Nat) (raws : List RawV) (Ak : Option Addr) (nk : Nat) (ks : List Int) : Prop :=
 DL rPfx 2 w S Ag ng gl ∧ DL rSeg 2 w S A n path ∧ NF w S A1 n1 comms ∧ DL rRaw 3 w S A2 n2 raws ∧ Rw w S 1 Ak nk (iv ks)
theorem UA.keep {w w' : World} {S S' : Nat → Prop} {Ag : Option Addr} {ng : Nat} {gl : List Pfx} {A : Option Addr} {n : Nat} {path : List Seg} {A1 : Option Addr} {n1 : Nat} {comms : List Int} {A2 : Option Addr} {n2 : Nat} {raws : List RawV} {Ak : Option Addr} {nk : Nat} {ks : List Int} (h : UA w S Ag ng gl A n path A1 n1 comms A2 n2 raws Ak nk ks) (hk : Kp w w' S S') : UA w' S' Ag ng gl A n path A1 n1 comms A2 n2 raws Ak nk ks :=
 ⟨h.1.keep rPfx_ok hk, h.2.1.keep rSeg_ok hk, h.2.2.1.keep hk, h.2.2.2.1.keep rRaw_ok hk, h.2.2.2.2.keep hk⟩
theorem loopA_kinds (wide : Bool) : ∀ (f : Nat) (g g' : Gr) (b : List UInt8), loopA wide f g b = .ok g' → g'.kinds.length ≤ g.kinds.length + f
 | 0, g, g', b, h => by
  unfold loopA at h
  injection h with h
  rw [h]; omega
 | f + 1, g, g', b, h => by
  by_cases hb : b = []
  ·subst hb
   rw [loopA_nil] at h
   injection h with h
   rw [h]; omega
  rw [loopA_next hb] at h
  cases hs : splitA b with
  | none => rw [hs] at h; cases h
  | some q =>
   obtain ⟨x, t⟩ := q
   rw [hs] at h
   unfold nextR at h
   simp only at h
   cases hst : stepA wide g x with
   | error e => rw [hst] at h; cases h
   | ok g2 =>
    rw [hst] at h
    have h1 := loopA_kinds wide f g2 g' t h
    have h2 := (kinds_nodup hst).2
    rw [h2, List.length_append] at h1
    simp at h1
    omega
theorem readAt_kinds {b : List UInt8} {wide : Bool} {x : At} {ks : List Int} (h : readAt b wide = .ok (x, ks)) : ks.length ≤ b.length := by
 unfold readAt at h
 cases h1 : loopA wide b.length zeroGr b with
 | error e => rw [h1] at h; cases h
 | ok g =>
  rw [h1] at h
  injection h with h
  injection h with _ h
  have h2 := loopA_kinds wide _ _ _ _ h1
  rw [← h]
  simpa [zeroGr] using h2
theorem RetUX.err {w wE : World} {q8 q9 : Nat} {ex : List Nat} {S : Nat → Prop} {A : Option Addr} {n c : Nat} {l : List UInt8} {r : Except FtA Upd} {k : Int} (hb : Below w.heap.size w wE) (h8 : w.heap.size ≤ q8) (h9 : w.heap.size ≤ q9) (hl : BF wE S A n l) (hS : ∀ b, S b → b < wE.heap.size ∧ b ≠ q8 ∧ b ≠ q9 ∧ b ∉ ex) (hnc : n ≤ c) (hr : r = .error (k, l)) :
  RetUX w ex r (.returned (.tuple #[.agg #[.slice none 0 0, .int .i64 0, .slice none 0 0, .int .u32 0, .int .i64 0, .int .i64 0, .bool false, .bool false, .int .u32 0, .int .u32 0, .slice none 0 0, .slice none 0 0, .slice none 0 0], .agg #[.int .i64 3, .int .i64 k, .slice A n c]])) ((World.setRow wE q8 #[.slice none 0 0, .int .i64 0, .slice none 0 0, .int .u32 0, .int .i64 0, .int .i64 0, .bool false, .bool false, .int .u32 0, .int .u32 0, .slice none 0 0, .slice none 0 0, .slice none 0 0]).setRow q9 #[.int .i64 3, .int .i64 k, .slice A n c]) := by
 have g1 := row_grown wE q8 #[.slice none 0 0, .int .i64 0, .slice none 0 0, .int .u32 0, .int .i64 0, .int .i64 0, .bool false, .bool false, .int .u32 0, .int .u32 0, .slice none 0 0, .slice none 0 0, .slice none 0 0]
 have g2 := row_grown (wE.setRow q8 #[.slice none 0 0, .int .i64 0, .slice none 0 0, .int .u32 0, .int .i64 0, .int .i64 0, .bool false, .bool false, .int .u32 0, .int .u32 0, .slice none 0 0, .slice none 0 0, .slice none 0 0]) q9 #[.int .i64 3, .int .i64 k, .slice A n c]
 have b1 := hb.grown g1 hb.size (fun k hk => by injection hk with hk; omega)
 have b2 := b1.grown g2 b1.size (fun k hk => by injection hk with hk; omega)
 refine ⟨b2, ?_⟩
 rw [hr]
 refine ⟨A, n, c, rfl, hl.keep (fun b hb => ⟨⟨Nat.lt_of_lt_of_le (hS b hb).1 (Nat.le_trans g1.size g2.size), (hS b hb).2.2.2⟩, ?_⟩), hnc⟩
 exact (g2.block b (Nat.lt_of_lt_of_le (hS b hb).1 g1.size) (fun e => by injection e with e; exact (hS b hb).2.2.1 e)).trans (g1.block b (hS b hb).1 (fun e => by injection e with e; exact (hS b hb).2.1 e))
theorem RetUX.ok {w wE : World} {q8 q9 : Nat} {ex : List Nat} {S : Nat → Prop} {u : Upd} {r : Except FtA Upd} (Ag : Option Addr) (ng cg : Nat) (A : Option Addr) (n c : Nat) (A1 : Option Addr) (n1 c1 : Nat) (A2 : Option Addr) (n2 c2 : Nat) (An : Option Addr) (nn cn : Nat) (hb : Below w.heap.size w wE) (h8 : w.heap.size ≤ q8) (h9 : w.heap.size ≤ q9)
  (hg : DL rPfx 2 wE S Ag ng u.gone) (hp : DL rSeg 2 wE S A n u.a.path) (hc : NF wE S A1 n1 u.a.comms) (hd : DL rRaw 3 wE S A2 n2 u.a.raws) (hm : DL rPfx 2 wE S An nn u.news) (hS : ∀ b, S b → b < wE.heap.size ∧ b ≠ q8 ∧ b ≠ q9 ∧ b ∉ ex) (hbd : ((rightA u.a.path = true ∨ u.a.path = []) ∧ u.a.comms.length ≤ 32 ∧ u.a.raws.length ≤ 8 ∧ ∀ y ∈ u.a.raws, y.2.2.length ≤ 64) ∧ u.gone.length ≤ 100000 ∧ u.news.length ≤ 100000) (hr : r = .ok u) :
  RetUX w ex r (.returned (.tuple #[.agg #[.slice Ag ng cg, .int .i64 u.a.origin, .slice A n c, .int .u32 u.a.next, .int .i64 u.a.med, .int .i64 u.a.pref, .bool u.a.atomic, .bool u.a.hasAggr, .int .u32 u.a.aggrAS, .int .u32 u.a.aggrAddr, .slice A1 n1 c1, .slice A2 n2 c2, .slice An nn cn], .agg #[.int .i64 0, .int .i64 0, .slice none 0 0]])) ((World.setRow wE q8 #[.slice Ag ng cg, .int .i64 u.a.origin, .slice A n c, .int .u32 u.a.next, .int .i64 u.a.med, .int .i64 u.a.pref, .bool u.a.atomic, .bool u.a.hasAggr, .int .u32 u.a.aggrAS, .int .u32 u.a.aggrAddr, .slice A1 n1 c1, .slice A2 n2 c2, .slice An nn cn]).setRow q9 #[.int .i64 0, .int .i64 0, .slice none 0 0]) := by
 have g1 := row_grown wE q8 #[.slice Ag ng cg, .int .i64 u.a.origin, .slice A n c, .int .u32 u.a.next, .int .i64 u.a.med, .int .i64 u.a.pref, .bool u.a.atomic, .bool u.a.hasAggr, .int .u32 u.a.aggrAS, .int .u32 u.a.aggrAddr, .slice A1 n1 c1, .slice A2 n2 c2, .slice An nn cn]
 have g2 := row_grown (wE.setRow q8 #[.slice Ag ng cg, .int .i64 u.a.origin, .slice A n c, .int .u32 u.a.next, .int .i64 u.a.med, .int .i64 u.a.pref, .bool u.a.atomic, .bool u.a.hasAggr, .int .u32 u.a.aggrAS, .int .u32 u.a.aggrAddr, .slice A1 n1 c1, .slice A2 n2 c2, .slice An nn cn]) q9 #[.int .i64 0, .int .i64 0, .slice none 0 0]
 have b1 := hb.grown g1 hb.size (fun k hk => by injection hk with hk; omega)
 have b2 := b1.grown g2 b1.size (fun k hk => by injection hk with hk; omega)
 refine ⟨b2, ?_⟩
 rw [hr]
 have hk : Kp wE ((World.setRow wE q8 #[.slice Ag ng cg, .int .i64 u.a.origin, .slice A n c, .int .u32 u.a.next, .int .i64 u.a.med, .int .i64 u.a.pref, .bool u.a.atomic, .bool u.a.hasAggr, .int .u32 u.a.aggrAS, .int .u32 u.a.aggrAddr, .slice A1 n1 c1, .slice A2 n2 c2, .slice An nn cn]).setRow q9 #[.int .i64 0, .int .i64 0, .slice none 0 0]) S (Ex ((World.setRow wE q8 #[.slice Ag ng cg, .int .i64 u.a.origin, .slice A n c, .int .u32 u.a.next, .int .i64 u.a.med, .int .i64 u.a.pref, .bool u.a.atomic, .bool u.a.hasAggr, .int .u32 u.a.aggrAS, .int .u32 u.a.aggrAddr, .slice A1 n1 c1, .slice A2 n2 c2, .slice An nn cn]).setRow q9 #[.int .i64 0, .int .i64 0, .slice none 0 0]) ex) := fun b hb => ⟨⟨Nat.lt_of_lt_of_le (hS b hb).1 (Nat.le_trans g1.size g2.size), (hS b hb).2.2.2⟩, (g2.block b (Nat.lt_of_lt_of_le (hS b hb).1 g1.size) (fun e => by injection e with e; exact (hS b hb).2.2.1 e)).trans (g1.block b (hS b hb).1 (fun e => by injection e with e; exact (hS b hb).2.1 e))⟩
 exact ⟨Ag, ng, cg, A, n, c, A1, n1, c1, A2, n2, c2, An, nn, cn, rfl, hg.keep rPfx_ok hk, hp.keep rSeg_ok hk, hc.keep hk, hd.keep rRaw_ok hk, hm.keep rPfx_ok hk, hbd⟩
set_option maxHeartbeats 32000000 in
set_option maxRecDepth 100000 in
theorem updReadX (ex : List Nat) (A0 : Option Addr) (n0 c0 : Nat) (b : List UInt8) (wide inner : Bool) (near : Int) (w : World) (hex0 : ∀ x ∈ ex, x < w.heap.size) (hb0 : BS w w.heap.size A0 n0 b) (hn0 : n0 ≤ 100000) (ht : LookTab w) :
  Calls Tryz.prog 40 #[.slice A0 n0 c0, .bool wide, .bool inner, .int .u32 near] w (RetUX w ex (updRead b wide inner near)) := by
 have HEX := Lib.hid hex0
 have HT := Lib.hid ht
 obtain ⟨res, hres⟩ : ∃ r, updRead b wide inner near = r := ⟨_, rfl⟩
 rw [hres]
 have HR0 := Lib.hid hres
 have hbl : b.length ≤ 100000 := by rw [← hb0.1]; exact hn0
 have u1 := tkLeft_len b false (2 : Nat)
 obtain ⟨l1, hl1⟩ : ∃ x, tkLeft b false (2 : Nat) = x := ⟨_, rfl⟩
 obtain ⟨s1, hs1⟩ : ∃ x, tkShort b false (2 : Nat) = x := ⟨_, rfl⟩
 obtain ⟨N1, hN1⟩ : ∃ x, numL (tkOut b false (2 : Nat)) = x := ⟨_, rfl⟩
 have u2 := tkLeft_len l1 s1 (N1 : Int)
 have o2 := tkOut_le5 l1 s1 (N1 : Int)
 obtain ⟨l2, hl2⟩ : ∃ x, tkLeft l1 s1 (N1 : Int) = x := ⟨_, rfl⟩
 obtain ⟨s2, hs2⟩ : ∃ x, tkShort l1 s1 (N1 : Int) = x := ⟨_, rfl⟩
 obtain ⟨gb, hgb⟩ : ∃ x, tkOut l1 s1 (N1 : Int) = x := ⟨_, rfl⟩
 have u3 := tkLeft_len l2 s2 (2 : Nat)
 obtain ⟨l3, hl3⟩ : ∃ x, tkLeft l2 s2 (2 : Nat) = x := ⟨_, rfl⟩
 obtain ⟨s3, hs3⟩ : ∃ x, tkShort l2 s2 (2 : Nat) = x := ⟨_, rfl⟩
 obtain ⟨N3, hN3⟩ : ∃ x, numL (tkOut l2 s2 (2 : Nat)) = x := ⟨_, rfl⟩
 have u4 := tkLeft_len l3 s3 (N3 : Int)
 have o4 := tkOut_le5 l3 s3 (N3 : Int)
 obtain ⟨l4, hl4⟩ : ∃ x, tkLeft l3 s3 (N3 : Int) = x := ⟨_, rfl⟩
 obtain ⟨s4, hs4⟩ : ∃ x, tkShort l3 s3 (N3 : Int) = x := ⟨_, rfl⟩
 obtain ⟨sb, hsb⟩ : ∃ x, tkOut l3 s3 (N3 : Int) = x := ⟨_, rfl⟩
 rw [hl1] at u1
 rw [hl2] at u2
 rw [hl3] at u3
 rw [hl4] at u4
 rw [hgb] at o2
 rw [hsb] at o4
 have HCUT := Lib.hid (show cut5 b = ⟨gb, sb, l4, s4⟩ by unfold cut5; simp only [hl1, hs1, hN1, hl2, hs2, hgb, hl3, hs3, hN3, hl4, hs4, hsb])
 have HLS := Lib.hid (show l1.length ≤ 100000 ∧ l2.length ≤ 100000 ∧ l3.length ≤ 100000 ∧ l4.length ≤ 100000 ∧ gb.length ≤ 100000 ∧ sb.length ≤ 100000 from ⟨by omega, by omega, by omega, by omega, by omega, by omega⟩)
 have HU1 := Lib.hid (show ∀ (Bd g : Nat) (w' : World), RB Bd w' g b false → Calls Tryz.prog 88 #[.pointer (some ⟨g, 0, none⟩)] w' fun en w'' => en = .returned (.int .i64 N1) ∧ RB Bd w'' g l1 s1 ∧ w'.grownBy w'' (some g) from fun Bd g w' h => by
  have := rbU16 g b false w' h (by omega)
  rw [hN1, hl1, hs1] at this
  exact this)
 have HT2 := Lib.hid (show ∀ (Bd g : Nat) (w' : World), RB Bd w' g l1 s1 → Calls Tryz.prog 87 #[.pointer (some ⟨g, 0, none⟩), .int .i64 N1] w' fun en w'' => ∃ (A : Option Addr) (n c : Nat), en = .returned (.slice A n c) ∧ OB w'' 5 w'.heap.size A n c gb ∧ RB Bd w'' g l2 s2 ∧ w'.grownBy w'' (some g) from fun Bd g w' h => by
  have := rbTake g l1 s1 (N1 : Int) w' h (by omega)
  unfold TkPost at this
  rw [hgb, hl2, hs2] at this
  exact this)
 have HU3 := Lib.hid (show ∀ (Bd g : Nat) (w' : World), RB Bd w' g l2 s2 → Calls Tryz.prog 88 #[.pointer (some ⟨g, 0, none⟩)] w' fun en w'' => en = .returned (.int .i64 N3) ∧ RB Bd w'' g l3 s3 ∧ w'.grownBy w'' (some g) from fun Bd g w' h => by
  have := rbU16 g l2 s2 w' h (by omega)
  rw [hN3, hl3, hs3] at this
  exact this)
 have HT4 := Lib.hid (show ∀ (Bd g : Nat) (w' : World), RB Bd w' g l3 s3 → Calls Tryz.prog 87 #[.pointer (some ⟨g, 0, none⟩), .int .i64 N3] w' fun en w'' => ∃ (A : Option Addr) (n c : Nat), en = .returned (.slice A n c) ∧ OB w'' 5 w'.heap.size A n c sb ∧ RB Bd w'' g l4 s4 ∧ w'.grownBy w'' (some g) from fun Bd g w' h => by
  have := rbTake g l3 s3 (N3 : Int) w' h (by omega)
  unfold TkPost at this
  rw [hsb, hl4, hs4] at this
  exact this)
 clear u1 u2 u3 u4 o2 o4 hl1 hs1 hN1 hl2 hs2 hgb hl3 hs3 hN3 hl4 hs4 hsb hres ht hex0
 obtain ⟨W, hW, H8, H9, bW⟩ := boxes2 w #[.slice none 0 0, .int .i64 0, .slice none 0 0, .int .u32 0, .int .i64 0, .int .i64 0, .bool false, .bool false, .int .u32 0, .int .u32 0, .slice none 0 0, .slice none 0 0, .slice none 0 0] #[.int .i64 0, .int .i64 0, .slice none 0 0] 77 88
 obtain ⟨q8, hq8⟩ : ∃ q, w.heap.size = q := ⟨_, rfl⟩
 obtain ⟨q9, hq9⟩ : ∃ x, q8 + 1 = x := ⟨_, rfl⟩
 have hbW := hb0.call bW
 have HQ8 := Lib.hid hq8
 have hle8 : w.heap.size ≤ q8 := by omega
 rw [hq8] at H8 H9
 rw [hq9] at H9
 have hl9 := H9.lt
 have h89 : q8 < q9 := by omega
 go_enter Tryz.func40, Tryz.ntmps40
 go_upto_region 1 with fail
 try rw [hW]
 try rw [hq8]
 try rw [hq9]
 clear hW hq8 hq9 hb0
 go_upto_region 2 with fail
 obtain ⟨w0, hw0, R10, b10⟩ := box1c W #[.slice none 0 0, .int .i64 0, .slice none 0 0, .int .u32 0, .int .i64 0, .int .i64 0, .bool false, .bool false, .int .u32 0, .int .u32 0, .slice none 0 0, .slice none 0 0, .slice none 0 0] 77
 try rw [hw0]
 obtain ⟨q10, hq10⟩ : ∃ x, W.heap.size = x := ⟨_, rfl⟩
 try rw [hq10]
 have R8 := H8.below b10 H8.lt
 have R9 := H9.below b10 hl9
 have b00 := btr bW b10 bW.size
 have hb00 := hbW.call b10
 rw [hq10] at R10 hl9
 have hl10 := R10.lt
 clear hw0 hq10 H8 H9 bW b10 hbW
 go_wp2_with fail
 refine (rbNew A0 n0 c0 b _ hb00 (by omega)).mono ?_
 rintro _ w1 ⟨g, rfl, hg, r1, b1⟩
 have b01 := btr b00 b1 b00.size
 have R8_1 := R8.below b1 R8.lt
 have R9_1 := R9.below b1 R9.lt
 have R10_1 := R10.below b1 R10.lt
 have h10g : q10 < g := by omega
 have hgB := r1.lt
 obtain ⟨Bd, hBd⟩ : ∃ x, w1.heap.size = x := ⟨_, rfl⟩
 rw [hBd] at r1 hgB
 clear hBd hb00 hg hl10
 go_wp2_with fail
 refine (HU1.out Bd g _ r1).mono ?_
 rintro _ w2 ⟨rfl, r2, g2⟩
 have z2 := g2.size
 have b02 := at_below b01 g2 b01.size (by omega)
 have R8_2 := R8_1.grown g2 (by intro e; injection e with e; omega)
 clear R8_1
 have R9_2 := R9_1.grown g2 (by intro e; injection e with e; omega)
 clear R9_1
 have R10_2 := R10_1.grown g2 (by intro e; injection e with e; omega)
 clear R10_1
 go_wp2_with fail
 refine (HT2.out Bd g _ r2).mono ?_
 rintro _ w3 ⟨A3, n3, c3, rfl, o3, r3, g3⟩
 have z3 := g3.size
 have b03 := at_below b02 g3 b02.size (by omega)
 have R8_3 := R8_2.grown g3 (by intro e; injection e with e; omega)
 clear R8_2
 have R9_3 := R9_2.grown g3 (by intro e; injection e with e; omega)
 clear R9_2
 have R10_3 := R10_2.grown g3 (by intro e; injection e with e; omega)
 clear R10_2
 have hr2 := r2.lt
 go_wp2_with fail
 refine (HU3.out Bd g _ r3).mono ?_
 rintro _ w4 ⟨rfl, r4, g4⟩
 have z4 := g4.size
 have b04 := at_below b03 g4 b03.size (by omega)
 have R8_4 := R8_3.grown g4 (by intro e; injection e with e; omega)
 clear R8_3
 have R9_4 := R9_3.grown g4 (by intro e; injection e with e; omega)
 clear R9_3
 have R10_4 := R10_3.grown g4 (by intro e; injection e with e; omega)
 clear R10_3
 have hr4 := r4.lt
 have o34 := o3.grownAt g4 hr2
 go_wp2_with fail
 refine (HT4.out Bd g _ r4).mono ?_
 rintro _ w5 ⟨A5, n5, c5, rfl, o5, r5, g5⟩
 have z5 := g5.size
 have b05 := at_below b04 g5 b04.size (by omega)
 have R8_5 := R8_4.grown g5 (by intro e; injection e with e; omega)
 clear R8_4
 have R9_5 := R9_4.grown g5 (by intro e; injection e with e; omega)
 clear R9_4
 have R10_5 := R10_4.grown g5 (by intro e; injection e with e; omega)
 clear R10_4
 have o35 := (o34.grownAt g5 hr2).bs
 have s5 := o5.bs
 have hn3 := Lib.hid o3.1
 have hn5 := Lib.hid o5.1
 have hB5 : Bd ≤ w5.heap.size := by obtain ⟨_, _, _, _, ⟨_, h⟩, _⟩ := r5; exact h
 clear o3 o34 o5 r1 r2 r3 r4 g2 g3 g4 g5 z2 z3 z4 hr2 hr4
 have HE5 := Lib.hid (rbErr g l4 s4 _ r5)
 cases s4
 case true =>
  have HE := Lib.hid (show res = .error (1, []) by rw [← HR0.out]; unfold updRead; rw [HCUT.out]; rfl)
  go_wp2_with fail
  refine HE5.out.mono ?_
  rintro _ _ ⟨rfl, rfl⟩
  try clear HR0
  try clear HCUT
  try clear HLS
  try clear HU1
  try clear HT2
  try clear HU3
  try clear HT4
  try clear HE5
  try clear hn3
  try clear hn5
  try clear HL7
  try clear HPG
  try clear HAR
  try clear HRD
  try clear HKS
  try clear HNK
  try clear HBD
  try clear HLF
  try clear HTK
  try clear hn11
  try clear HL12
  try clear HPN
  try clear hlg
  try clear hln
  try clear hnn
  try clear HMI
  try clear HM
  try clear HFI
  try clear HF12
  try clear hlN
  try clear U9
  try clear U10
  try clear U11
  try clear U12
  try clear U13
  try clear U14
  try clear U15
  try clear dn13
  try clear dn14
  try clear dn15
  try clear o3
  try clear o35
  try clear o36
  try clear s5
  try clear s57
  try clear s58
  try clear r6
  try clear r7
  try clear r8
  try clear r9
  try clear r10
  try clear r11
  try clear z5
  try clear z7
  try clear z9
  try clear z11
  try clear z12
  try clear z13
  try clear z14
  try clear z15
  try clear z_8
  try clear z_13
  try clear b6'
  try clear hBd14
  try clear hlt9
  try clear h1114
  try clear hz13
  try clear h9le
  try clear hexB
  try clear h916
  try clear h16l
  try clear HT
  try clear hbl
  try clear hn0
  try clear og9
  try clear og8
  try clear hog8
  try clear hlN
  go_upto_region 6 with fail
  have R8d := R8_5.drew
  have R9d := R9_5.drew
  have R10d := R10_5.drew
  have bdd := (b05).drew
  have hbfd := BF.keep (S' := (fun _ => False)) ((⟨rfl, Rw.none_⟩ : BF w5 (fun _ => False) none 0 [])) (fun b hb => ⟨hb, rfl⟩ : Kp w5 (w5).drew _ _)
  obtain ⟨wd, hwd⟩ : ∃ x, (w5).drew = x := ⟨_, rfl⟩
  have hzd : wd.heap.size = (w5).heap.size := by rw [← hwd]; rfl
  rw [hwd] at R8d R9d R10d bdd hbfd
  have HWD := Lib.hid hwd
  clear hwd
  rename_i hk
  have HKK := Lib.hid hk
  clear hk
  refine wp_region_held_drew (S := (fun w' => Blk w' q10 77 #[.slice none 0 0, .int .i64 0, .slice none 0 0, .int .u32 0, .int .i64 0, .int .i64 0, .bool false, .bool false, .int .u32 0, .int .u32 0, .slice none 0 0, .slice none 0 0, .slice none 0 0])) (by kernel_rfl) ?_ (fun hHeld => ?_)
  ·rw [HWD.out]; exact R10d
  rw [HWD.out]
  rw [HWD.out] at hHeld
  refine wpAnyH_take (i := 0) (v := ?m1_v0) rfl (by kernel_rfl) (by kernel_rfl) (by kernel_rfl) (by intro _ _ _ h; exact h) (Or.inl ⟨by rfl, ?m1_hy0⟩) (by assumption) ?m1_rest0
  case m1_hy0 => (intro w hSw; (try dsimp only at hSw); have z0 := Blk.cell hSw 0; have z1 := Blk.cell hSw 1; have z2 := Blk.cell hSw 2; have z3 := Blk.cell hSw 3; have z4 := Blk.cell hSw 4; have z5 := Blk.cell hSw 5; have z6 := Blk.cell hSw 6; have z7 := Blk.cell hSw 7; have z8 := Blk.cell hSw 8; have z9 := Blk.cell hSw 9; have z10 := Blk.cell hSw 10; have z11 := Blk.cell hSw 11; have z12 := Blk.cell hSw 12; clear hSw; go_simp; try with_reducible rfl)
  try simp only [Act.put, q1, q2, q3, q4, q5, q6]
  refine tkr 1 fun K hK => ?_
  go_simp
  go_wp2_with (go_at_call 90; refine (updFault 1 none 0 0 _).mono ?_; rintro _ we ⟨rfl, be⟩; have R8e := R8d.below be R8d.lt; have R9e := R9d.below be R9d.lt; have R10e := R10d.below be R10d.lt)
  refine hK.out _ _ ?_ (fun hHeld => ?_)
  ·try dsimp only
   exact R10e
  clear hK K
  have R9f := R9e.rowFar (k := q8) (by omega) #[.slice none 0 0, .int .i64 0, .slice none 0 0, .int .u32 0, .int .i64 0, .int .i64 0, .bool false, .bool false, .int .u32 0, .int .u32 0, .slice none 0 0, .slice none 0 0, .slice none 0 0]
  have HF := Lib.hid (R10e.rowFar (k := q8) (by omega) #[.slice none 0 0, .int .i64 0, .slice none 0 0, .int .u32 0, .int .i64 0, .int .i64 0, .bool false, .bool false, .int .u32 0, .int .u32 0, .slice none 0 0, .slice none 0 0, .slice none 0 0])
  have HH := Lib.hid ((R10e.rowFar (k := q8) (by omega) #[.slice none 0 0, .int .i64 0, .slice none 0 0, .int .u32 0, .int .i64 0, .int .i64 0, .bool false, .bool false, .int .u32 0, .int .u32 0, .slice none 0 0, .slice none 0 0, .slice none 0 0]).rowFar (k := q9) (by omega) #[.int .i64 3, .int .i64 1, .slice none 0 0])
  refine tkr 2 fun K hK => ?_
  refine step_row rfl 77 (.tmp 8) (.tmp 35) rfl q8 #[.slice none 0 0, .int .i64 0, .slice none 0 0, .int .u32 0, .int .i64 0, .int .i64 0, .bool false, .bool false, .int .u32 0, .int .u32 0, .slice none 0 0, .slice none 0 0, .slice none 0 0] (by rfl) (by rfl) 77 #[.slice none 0 0, .int .i64 0, .slice none 0 0, .int .u32 0, .int .i64 0, .int .i64 0, .bool false, .bool false, .int .u32 0, .int .u32 0, .slice none 0 0, .slice none 0 0, .slice none 0 0] R8e upd_info1 rfl (by kernel_rfl) ?_
  refine hK.out _ _ ?_ (fun hHeld => ?_)
  ·try dsimp only
   exact HF.out
  clear hK K
  refine tkr 3 fun K hK => ?_
  refine step_row rfl 88 (.tmp 9) (.tmp 36) rfl q9 #[.int .i64 3, .int .i64 1, .slice none 0 0] (by rfl) (by rfl) 88 #[.int .i64 0, .int .i64 0, .slice none 0 0] R9f fltA_info rfl (by kernel_rfl) ?_
  refine hK.out _ _ ?_ (fun hHeld => ?_)
  ·try dsimp only
   exact HH.out
  clear hK K
  refine wpAnyH_done (by kernel_rfl) ?_ _
  have bE := btr bdd be bdd.size
  have hbE := hbfd.keep (S' := (fun _ => False)) (fun b hb => ⟨hb, be.block b (by rw [hzd]; exact ((show (b < (w5).heap.size ∧ b ≠ q8 ∧ b ≠ q9 ∧ b ∉ ex) from hb.elim)).1)⟩)
  have hzE : (w5).heap.size ≤ we.heap.size := by rw [← hzd]; exact be.size
  have HRT := Lib.hid (RetUX.err (ex := ex) (w := w) (q8 := q8) (q9 := q9) (S := (fun _ => False)) bE hle8 (by omega) hbE (fun b hb => by have h := (show (b < (w5).heap.size ∧ b ≠ q8 ∧ b ≠ q9 ∧ b ∉ ex) from hb.elim); exact ⟨Nat.lt_of_lt_of_le h.1 hzE, h.2⟩) (Nat.le_refl _) HE.out)
  clear hbE hbfd bE
  refine HKK.out _ _ (wp_ret ?_)
  exact bodyPost_ret (upd_ret rfl _ _ q8 q9 _ _ _ _ _ _ _ _ _ _ _ _ _ (.int .i64 3) (.int .i64 1) (.slice none 0 0) rfl rfl ((R8e.row _).rowFar (by omega) _) (R9f.row _)) rfl HRT.out
 go_wp2_with fail
 refine HE5.out.mono ?_
 rintro _ _ ⟨rfl, rfl⟩
 go_upto_region 8 with fail
 obtain ⟨w6, hw6, R14, b6⟩ := box1c w5 #[.slice none 0 0, .int .i64 0, .slice none 0 0, .int .u32 0, .int .i64 0, .int .i64 0, .bool false, .bool false, .int .u32 0, .int .u32 0, .slice none 0 0, .slice none 0 0, .slice none 0 0] 77
 try rw [hw6]
 obtain ⟨q14, hq14⟩ : ∃ x, w5.heap.size = x := ⟨_, rfl⟩
 try rw [hq14]
 have h5g : g < w5.heap.size := r5.lt
 have r6 := r5.below b6 hB5 h5g
 have o36 := o35.call b6
 have s56 := s5.below b6
 have b06 := btr b05 b6 b05.size
 have R8_6 := R8_5.below b6 R8_5.lt
 clear R8_5
 have R9_6 := R9_5.below b6 R9_5.lt
 clear R9_5
 have R10_6 := R10_5.below b6 R10_5.lt
 clear R10_5
 rw [hq14] at R14 hB5 h5g s56
 have hBd14 := hB5
 have hg14 := h5g
 have h14l := R14.lt
 have b6' : Below q14 w5 w6 := by rw [← hq14]; exact b6
 clear hw6 hq14 o35 s5 r5 hB5 h5g b6
 obtain ⟨pg, hpg⟩ : ∃ x, pfxs gb = x := ⟨_, rfl⟩
 have HL7 := Lib.hid (show Calls Tryz.prog 91 #[.slice A3 n3 c3] w6 (RetLs w6 pg) by rw [← hpg]; exact prefixList A3 n3 c3 gb w6 o36 (by have := hn3.out; have := HLS.out; omega))
 have HPG := Lib.hid hpg
 clear hpg o36
 go_wp2_with fail
 refine HL7.out.mono ?_
 rintro e7 w7 ⟨b7, hm7⟩
 have b07 := btr b06 b7 b06.size
 have R8_7 := R8_6.below b7 R8_6.lt
 clear R8_6
 have R9_7 := R9_6.below b7 R9_6.lt
 clear R9_6
 have R10_7 := R10_6.below b7 R10_6.lt
 clear R10_6
 have R14_7 := R14.below b7 R14.lt
 have r7 := r6.below b7 (by omega) (by omega)
 have s57 := s56.below (b7.mono (by omega))
 have z7 := b7.size
 clear r6 s56
 cases pg with
 | none =>
  obtain ⟨x, rfl, hx⟩ := hm7
  have tx : (x != 0) = true := by simpa using hx
  have HE := Lib.hid (show res = .error (10, []) by rw [← HR0.out]; unfold updRead; rw [HCUT.out]; simp only [Bool.false_eq_true, if_false, HPG.out])
  clear hx
  have c_R140 := R14_7.cell 0
  have f_R140 := R14_7.frozen 0
  go_upto_region 10 with fail
  obtain ⟨w8, hw8⟩ : ∃ Wz_, w7.setCell ⟨q14, 0, none⟩ (.slice none 0 0)= Wz_ := ⟨_, rfl⟩
  have R8_8 := R8_7.far (p := ⟨q14, 0, none⟩) (by show _ ≠ q14; omega) (.slice none 0 0)
  have R9_8 := R9_7.far (p := ⟨q14, 0, none⟩) (by show _ ≠ q14; omega) (.slice none 0 0)
  have R10_8 := R10_7.far (p := ⟨q14, 0, none⟩) (by show _ ≠ q14; omega) (.slice none 0 0)
  have R14_8 := R14_7.set_ 0 (.slice none 0 0)
  simp only [List.setIfInBounds_toArray, List.set_cons_succ, List.set_cons_zero] at R14_8
  have b08 := b07.setCell (p := ⟨q14, 0, none⟩) (by show _ ≤ q14; omega) (.slice none 0 0)
  have z_8 : w7.heap.size ≤ w8.heap.size := by rw [← hw8]; simp [World.setCell]
  rw [hw8] at R8_8 R9_8 R10_8 R14_8 b08
  rw [hw8]
  clear hw8
  clear c_R140 f_R140
  clear R8_7
  clear R9_7
  clear R10_7
  clear R14_7
  have c_R140 := R14_8.cell 0
  have f_R140 := R14_8.frozen 0
  try clear HR0
  try clear HCUT
  try clear HLS
  try clear HU1
  try clear HT2
  try clear HU3
  try clear HT4
  try clear HE5
  try clear hn3
  try clear hn5
  try clear HL7
  try clear HPG
  try clear HAR
  try clear HRD
  try clear HKS
  try clear HNK
  try clear HBD
  try clear HLF
  try clear HTK
  try clear hn11
  try clear HL12
  try clear HPN
  try clear hlg
  try clear hln
  try clear hnn
  try clear HMI
  try clear HM
  try clear HFI
  try clear HF12
  try clear hlN
  try clear U9
  try clear U10
  try clear U11
  try clear U12
  try clear U13
  try clear U14
  try clear U15
  try clear dn13
  try clear dn14
  try clear dn15
  try clear o3
  try clear o35
  try clear o36
  try clear s5
  try clear s57
  try clear s58
  try clear r6
  try clear r7
  try clear r8
  try clear r9
  try clear r10
  try clear r11
  try clear z5
  try clear z7
  try clear z9
  try clear z11
  try clear z12
  try clear z13
  try clear z14
  try clear z15
  try clear z_8
  try clear z_13
  try clear b6'
  try clear hBd14
  try clear hlt9
  try clear h1114
  try clear hz13
  try clear h9le
  try clear hexB
  try clear h916
  try clear h16l
  try clear HT
  try clear hbl
  try clear hn0
  try clear og9
  try clear og8
  try clear hog8
  try clear hlN
  go_upto_region 11 with fail
  have R8d := R8_8.drew
  have R9d := R9_8.drew
  have R10d := R10_8.drew
  have bdd := (b08).drew
  have hbfd := BF.keep (S' := (fun _ => False)) ((⟨rfl, Rw.none_⟩ : BF w8 (fun _ => False) none 0 [])) (fun b hb => ⟨hb, rfl⟩ : Kp w8 (w8).drew _ _)
  obtain ⟨wd, hwd⟩ : ∃ x, (w8).drew = x := ⟨_, rfl⟩
  have hzd : wd.heap.size = (w8).heap.size := by rw [← hwd]; rfl
  rw [hwd] at R8d R9d R10d bdd hbfd
  have HWD := Lib.hid hwd
  clear hwd
  rename_i hk
  have HKK := Lib.hid hk
  clear hk
  refine wp_region_held_drew (S := (fun w' => Blk w' q10 77 #[.slice none 0 0, .int .i64 0, .slice none 0 0, .int .u32 0, .int .i64 0, .int .i64 0, .bool false, .bool false, .int .u32 0, .int .u32 0, .slice none 0 0, .slice none 0 0, .slice none 0 0])) (by kernel_rfl) ?_ (fun hHeld => ?_)
  ·rw [HWD.out]; exact R10d
  rw [HWD.out]
  rw [HWD.out] at hHeld
  refine wpAnyH_take (i := 0) (v := ?m2_v0) rfl (by kernel_rfl) (by kernel_rfl) (by kernel_rfl) (by intro _ _ _ h; exact h) (Or.inl ⟨by rfl, ?m2_hy0⟩) (by assumption) ?m2_rest0
  case m2_hy0 => (intro w hSw; (try dsimp only at hSw); have z0 := Blk.cell hSw 0; have z1 := Blk.cell hSw 1; have z2 := Blk.cell hSw 2; have z3 := Blk.cell hSw 3; have z4 := Blk.cell hSw 4; have z5 := Blk.cell hSw 5; have z6 := Blk.cell hSw 6; have z7 := Blk.cell hSw 7; have z8 := Blk.cell hSw 8; have z9 := Blk.cell hSw 9; have z10 := Blk.cell hSw 10; have z11 := Blk.cell hSw 11; have z12 := Blk.cell hSw 12; clear hSw; go_simp; try with_reducible rfl)
  try simp only [Act.put, q1, q2, q3, q4, q5, q6]
  refine tkr 1 fun K hK => ?_
  go_simp
  go_wp2_with (go_at_call 90; refine (updFault 10 none 0 0 _).mono ?_; rintro _ we ⟨rfl, be⟩; have R8e := R8d.below be R8d.lt; have R9e := R9d.below be R9d.lt; have R10e := R10d.below be R10d.lt)
  refine hK.out _ _ ?_ (fun hHeld => ?_)
  ·try dsimp only
   exact R10e
  clear hK K
  have R9f := R9e.rowFar (k := q8) (by omega) #[.slice none 0 0, .int .i64 0, .slice none 0 0, .int .u32 0, .int .i64 0, .int .i64 0, .bool false, .bool false, .int .u32 0, .int .u32 0, .slice none 0 0, .slice none 0 0, .slice none 0 0]
  have HF := Lib.hid (R10e.rowFar (k := q8) (by omega) #[.slice none 0 0, .int .i64 0, .slice none 0 0, .int .u32 0, .int .i64 0, .int .i64 0, .bool false, .bool false, .int .u32 0, .int .u32 0, .slice none 0 0, .slice none 0 0, .slice none 0 0])
  have HH := Lib.hid ((R10e.rowFar (k := q8) (by omega) #[.slice none 0 0, .int .i64 0, .slice none 0 0, .int .u32 0, .int .i64 0, .int .i64 0, .bool false, .bool false, .int .u32 0, .int .u32 0, .slice none 0 0, .slice none 0 0, .slice none 0 0]).rowFar (k := q9) (by omega) #[.int .i64 3, .int .i64 10, .slice none 0 0])
  refine tkr 2 fun K hK => ?_
  refine step_row rfl 77 (.tmp 8) (.tmp 46) rfl q8 #[.slice none 0 0, .int .i64 0, .slice none 0 0, .int .u32 0, .int .i64 0, .int .i64 0, .bool false, .bool false, .int .u32 0, .int .u32 0, .slice none 0 0, .slice none 0 0, .slice none 0 0] (by rfl) (by rfl) 77 #[.slice none 0 0, .int .i64 0, .slice none 0 0, .int .u32 0, .int .i64 0, .int .i64 0, .bool false, .bool false, .int .u32 0, .int .u32 0, .slice none 0 0, .slice none 0 0, .slice none 0 0] R8e upd_info1 rfl (by kernel_rfl) ?_
  refine hK.out _ _ ?_ (fun hHeld => ?_)
  ·try dsimp only
   exact HF.out
  clear hK K
  refine tkr 3 fun K hK => ?_
  refine step_row rfl 88 (.tmp 9) (.tmp 47) rfl q9 #[.int .i64 3, .int .i64 10, .slice none 0 0] (by rfl) (by rfl) 88 #[.int .i64 0, .int .i64 0, .slice none 0 0] R9f fltA_info rfl (by kernel_rfl) ?_
  refine hK.out _ _ ?_ (fun hHeld => ?_)
  ·try dsimp only
   exact HH.out
  clear hK K
  refine wpAnyH_done (by kernel_rfl) ?_ _
  have bE := btr bdd be bdd.size
  have hbE := hbfd.keep (S' := (fun _ => False)) (fun b hb => ⟨hb, be.block b (by rw [hzd]; exact ((show (b < (w8).heap.size ∧ b ≠ q8 ∧ b ≠ q9 ∧ b ∉ ex) from hb.elim)).1)⟩)
  have hzE : (w8).heap.size ≤ we.heap.size := by rw [← hzd]; exact be.size
  have HRT := Lib.hid (RetUX.err (ex := ex) (w := w) (q8 := q8) (q9 := q9) (S := (fun _ => False)) bE hle8 (by omega) hbE (fun b hb => by have h := (show (b < (w8).heap.size ∧ b ≠ q8 ∧ b ≠ q9 ∧ b ∉ ex) from hb.elim); exact ⟨Nat.lt_of_lt_of_le h.1 hzE, h.2⟩) (Nat.le_refl _) HE.out)
  clear hbE hbfd bE
  refine HKK.out _ _ (wp_ret ?_)
  exact bodyPost_ret (upd_ret rfl _ _ q8 q9 _ _ _ _ _ _ _ _ _ _ _ _ _ (.int .i64 3) (.int .i64 10) (.slice none 0 0) rfl rfl ((R8e.row _).rowFar (by omega) _) (R9f.row _)) rfl HRT.out
 | some gl =>
  obtain ⟨Ag, ng, cg, rfl, og⟩ := hm7
  have c_R140 := R14_7.cell 0
  have f_R140 := R14_7.frozen 0
  go_upto_region 10 with fail
  have hogk : ∀ k, Value.ownBlock (.slice Ag ng cg) = some k → q14 < k := fun k hk => by have := (og.2.1.lt k hk).1; omega
  have og8 := og.keep (w' := w7.setCell ⟨q14, 0, none⟩ (.slice Ag ng cg)) (fun k hk => Below.heap_setCell w7 _ _ k (by have := hogk k hk; show k ≠ q14; omega))
  have r8 := r7.setCell (p := ⟨q14, 0, none⟩) hBd14 (by show q14 ≠ g; omega) (.slice Ag ng cg)
  have s58 := s57.setCell (p := ⟨q14, 0, none⟩) (Nat.le_refl _) (.slice Ag ng cg)
  obtain ⟨w8, hw8⟩ : ∃ Wz_, w7.setCell ⟨q14, 0, none⟩ (.slice Ag ng cg)= Wz_ := ⟨_, rfl⟩
  have R8_8 := R8_7.far (p := ⟨q14, 0, none⟩) (by show _ ≠ q14; omega) (.slice Ag ng cg)
  have R9_8 := R9_7.far (p := ⟨q14, 0, none⟩) (by show _ ≠ q14; omega) (.slice Ag ng cg)
  have R10_8 := R10_7.far (p := ⟨q14, 0, none⟩) (by show _ ≠ q14; omega) (.slice Ag ng cg)
  have R14_8 := R14_7.set_ 0 (.slice Ag ng cg)
  simp only [List.setIfInBounds_toArray, List.set_cons_succ, List.set_cons_zero] at R14_8
  have b08 := b07.setCell (p := ⟨q14, 0, none⟩) (by show _ ≤ q14; omega) (.slice Ag ng cg)
  have z_8 : w7.heap.size ≤ w8.heap.size := by rw [← hw8]; simp [World.setCell]
  rw [hw8] at R8_8 R9_8 R10_8 R14_8 b08 og8 r8 s58
  rw [hw8]
  clear hw8
  clear c_R140 f_R140
  clear R8_7
  clear R9_7
  clear R10_7
  clear R14_7
  have c_R140 := R14_8.cell 0
  have f_R140 := R14_8.frozen 0
  have hog8 : Hid (∀ k, Value.ownBlock (.slice Ag ng cg) = some k → q14 < k ∧ k < w8.heap.size) := Lib.hid fun k hk => ⟨hogk k hk, (og8.2.1.lt k hk).2⟩
  clear og r7 s57 hogk
  have s8 := s58.more (B' := w8.heap.size) (by omega)
  obtain ⟨rd, hrd⟩ : ∃ x, readAt sb wide = x := ⟨_, rfl⟩
  have hex8 : ∀ x ∈ (q8 :: q9 :: q10 :: g :: q14 :: ex), x < w8.heap.size := fun x hx => by
   have he := HEX.out x
   have h0 := b08.size
   simp at hx
   rcases hx with rfl | rfl | rfl | rfl | rfl | hx
   ·omega
   ·omega
   ·omega
   ·omega
   ·omega
   ·have := he hx; omega
  have HAR := Lib.hid (show Calls Tryz.prog 92 #[.slice A5 n5 c5, .bool wide] w8 (RetRX w8 (q8 :: q9 :: q10 :: g :: q14 :: ex) rd) by rw [← hrd]; exact attReadX _ A5 n5 c5 sb wide w8 hex8 s8 (by have := hn5.out; have := HLS.out; omega) (HT.out.call b08))
  have HRD := Lib.hid hrd
  clear hrd s8 s58 hex8
  go_wp2_with fail
  refine HAR.out.mono ?_
  rintro e9 w9 ⟨b9, hm9⟩
  clear c_R140 f_R140
  have b09 := btr b08 b9 b08.size
  have R8_9 := R8_8.below b9 R8_8.lt
  clear R8_8
  have R9_9 := R9_8.below b9 R9_8.lt
  clear R9_8
  have R10_9 := R10_8.below b9 R10_8.lt
  clear R10_8
  have R14_9 := R14_8.below b9 R14_8.lt
  clear R14_8
  have c_R140 := R14_9.cell 0
  have f_R140 := R14_9.frozen 0
  have z9 := b9.size
  have og9 := og8.call b9
  have r9 := r8.below b9 (by omega) (by omega)
  clear og8 r8
  cases rd with
  | error fe =>
   obtain ⟨k, l⟩ := fe
   obtain ⟨A9, n9, c9, rfl, hbf, hn9⟩ := hm9
   have HE := Lib.hid (show res = .error (k, l) by rw [← HR0.out]; unfold updRead; rw [HCUT.out]; simp only [Bool.false_eq_true, if_false, HPG.out, HRD.out])
   clear og9 r9
   go_upto_region 13 with fail
   obtain ⟨w10, hw10, R16, R18, b10⟩ := boxes2 w9 #[.int .i64 0, .slice none 0 0, .int .u32 0, .int .i64 0, .int .i64 0, .bool false, .bool false, .int .u32 0, .int .u32 0, .slice none 0 0, .slice none 0 0] #[.int .i64 3, .int .i64 k, .slice A9 n9 c9] 75 88
   try rw [hw10]
   obtain ⟨q16, hq16⟩ : ∃ x, w9.heap.size = x := ⟨_, rfl⟩
   obtain ⟨q18, hq18⟩ : ∃ x, q16 + 1 = x := ⟨_, rfl⟩
   have z10 := b10.size
   have hbf10 := BF.keep (S' := Ex w9 (q8 :: q9 :: q10 :: g :: q14 :: ex)) hbf (fun b hb => ⟨hb, b10.block b hb.1⟩)
   have h16 : q14 < q16 := by have := R14_9.lt; omega
   clear c_R140 f_R140
   have b010 := btr b09 b10 b09.size
   have R8_10 := R8_9.below b10 R8_9.lt
   clear R8_9
   have R9_10 := R9_9.below b10 R9_9.lt
   clear R9_9
   have R10_10 := R10_9.below b10 R10_9.lt
   clear R10_9
   have R14_10 := R14_9.below b10 R14_9.lt
   clear R14_9
   have c_R140 := R14_10.cell 0
   have f_R140 := R14_10.frozen 0
   rw [hq16] at R16 R18
   try rw [hq16]
   rw [hq18] at R18
   try rw [hq18]
   clear hq16 hw10 hbf
   have c_R180 := R18.cell 0
   try clear HR0
   try clear HCUT
   try clear HLS
   try clear HU1
   try clear HT2
   try clear HU3
   try clear HT4
   try clear HE5
   try clear hn3
   try clear hn5
   try clear HL7
   try clear HPG
   try clear HAR
   try clear HRD
   try clear HKS
   try clear HNK
   try clear HBD
   try clear HLF
   try clear HTK
   try clear hn11
   try clear HL12
   try clear HPN
   try clear hlg
   try clear hln
   try clear hnn
   try clear HMI
   try clear HM
   try clear HFI
   try clear HF12
   try clear hlN
   try clear U9
   try clear U10
   try clear U11
   try clear U12
   try clear U13
   try clear U14
   try clear U15
   try clear dn13
   try clear dn14
   try clear dn15
   try clear o3
   try clear o35
   try clear o36
   try clear s5
   try clear s57
   try clear s58
   try clear r6
   try clear r7
   try clear r8
   try clear r9
   try clear r10
   try clear r11
   try clear z5
   try clear z7
   try clear z9
   try clear z11
   try clear z12
   try clear z13
   try clear z14
   try clear z15
   try clear z_8
   try clear z_13
   try clear b6'
   try clear hBd14
   try clear hlt9
   try clear h1114
   try clear hz13
   try clear h9le
   try clear hexB
   try clear h916
   try clear h16l
   try clear HT
   try clear hbl
   try clear hn0
   try clear og9
   try clear og8
   try clear hog8
   try clear hlN
   go_upto_region 14 with fail
   have R8d := R8_10.drew
   have R9d := R9_10.drew
   have R10d := R10_10.drew
   have bdd := (b010).drew
   have hbfd := BF.keep (S' := (Ex w9 (q8 :: q9 :: q10 :: g :: q14 :: ex))) (hbf10) (fun b hb => ⟨hb, rfl⟩ : Kp w10 (w10).drew _ _)
   have R18d := R18.drew
   obtain ⟨wd, hwd⟩ : ∃ x, (w10).drew = x := ⟨_, rfl⟩
   have hzd : wd.heap.size = (w10).heap.size := by rw [← hwd]; rfl
   rw [hwd] at R8d R9d R10d bdd hbfd R18d
   have HWD := Lib.hid hwd
   clear hwd
   rename_i hk
   have HKK := Lib.hid hk
   clear hk
   have R8e := R8d
   have R9e := R9d
   have R10e := R10d
   refine wp_region_held_drew (S := (fun w' => Blk w' q10 77 #[.slice none 0 0, .int .i64 0, .slice none 0 0, .int .u32 0, .int .i64 0, .int .i64 0, .bool false, .bool false, .int .u32 0, .int .u32 0, .slice none 0 0, .slice none 0 0, .slice none 0 0] ∧ Blk w' q18 88 #[.int .i64 3, .int .i64 k, .slice A9 n9 c9])) (by kernel_rfl) ?_ (fun hHeld => ?_)
   ·rw [HWD.out]; exact ⟨R10d, R18d⟩
   rw [HWD.out]
   rw [HWD.out] at hHeld
   refine wpAnyH_take (i := 0) (v := ?m3_v0) rfl (by kernel_rfl) (by kernel_rfl) (by kernel_rfl) (by intro _ _ _ h; exact h) (Or.inl ⟨by rfl, ?m3_hy0⟩) (by assumption) ?m3_rest0
   case m3_hy0 => (intro w hSw; (try dsimp only at hSw); have z0 := Blk.cell hSw.1 0; have z1 := Blk.cell hSw.1 1; have z2 := Blk.cell hSw.1 2; have z3 := Blk.cell hSw.1 3; have z4 := Blk.cell hSw.1 4; have z5 := Blk.cell hSw.1 5; have z6 := Blk.cell hSw.1 6; have z7 := Blk.cell hSw.1 7; have z8 := Blk.cell hSw.1 8; have z9 := Blk.cell hSw.1 9; have z10 := Blk.cell hSw.1 10; have z11 := Blk.cell hSw.1 11; have z12 := Blk.cell hSw.1 12; clear hSw; go_simp; try with_reducible rfl)
   try simp only [Act.put, q1, q2, q3, q4, q5, q6]
   refine wpAnyH_take (i := 1) (v := ?m4_v1) rfl (by kernel_rfl) (by kernel_rfl) (by kernel_rfl) (by intro _ _ _ h; exact h) (Or.inl ⟨by rfl, ?m4_hy1⟩) (by assumption) ?m4_rest1
   case m4_hy1 => (intro w hSw; (try dsimp only at hSw); have z0 := Blk.cell hSw.2 0; have z1 := Blk.cell hSw.2 1; have z2 := Blk.cell hSw.2 2; clear hSw; go_simp; try with_reducible rfl)
   try simp only [Act.put, q1, q2, q3, q4, q5, q6]
   have R9f := R9e.rowFar (k := q8) (by omega) #[.slice none 0 0, .int .i64 0, .slice none 0 0, .int .u32 0, .int .i64 0, .int .i64 0, .bool false, .bool false, .int .u32 0, .int .u32 0, .slice none 0 0, .slice none 0 0, .slice none 0 0]
   have HF := Lib.hid (R10e.rowFar (k := q8) (by omega) #[.slice none 0 0, .int .i64 0, .slice none 0 0, .int .u32 0, .int .i64 0, .int .i64 0, .bool false, .bool false, .int .u32 0, .int .u32 0, .slice none 0 0, .slice none 0 0, .slice none 0 0])
   have HH := Lib.hid ((R10e.rowFar (k := q8) (by omega) #[.slice none 0 0, .int .i64 0, .slice none 0 0, .int .u32 0, .int .i64 0, .int .i64 0, .bool false, .bool false, .int .u32 0, .int .u32 0, .slice none 0 0, .slice none 0 0, .slice none 0 0]).rowFar (k := q9) (by omega) #[.int .i64 3, .int .i64 k, .slice A9 n9 c9])
   have HF2 := Lib.hid (R18d.rowFar (k := q8) (by omega) #[.slice none 0 0, .int .i64 0, .slice none 0 0, .int .u32 0, .int .i64 0, .int .i64 0, .bool false, .bool false, .int .u32 0, .int .u32 0, .slice none 0 0, .slice none 0 0, .slice none 0 0])
   have HH2 := Lib.hid ((R18d.rowFar (k := q8) (by omega) #[.slice none 0 0, .int .i64 0, .slice none 0 0, .int .u32 0, .int .i64 0, .int .i64 0, .bool false, .bool false, .int .u32 0, .int .u32 0, .slice none 0 0, .slice none 0 0, .slice none 0 0]).rowFar (k := q9) (by omega) #[.int .i64 3, .int .i64 k, .slice A9 n9 c9])
   refine tkr 2 fun K hK => ?_
   refine step_row rfl 77 (.tmp 8) (.tmp 58) rfl q8 #[.slice none 0 0, .int .i64 0, .slice none 0 0, .int .u32 0, .int .i64 0, .int .i64 0, .bool false, .bool false, .int .u32 0, .int .u32 0, .slice none 0 0, .slice none 0 0, .slice none 0 0] (by rfl) (by rfl) 77 #[.slice none 0 0, .int .i64 0, .slice none 0 0, .int .u32 0, .int .i64 0, .int .i64 0, .bool false, .bool false, .int .u32 0, .int .u32 0, .slice none 0 0, .slice none 0 0, .slice none 0 0] R8e upd_info1 rfl (by kernel_rfl) ?_
   refine hK.out _ _ ?_ (fun hHeld => ?_)
   ·try dsimp only
    exact ⟨HF.out, HF2.out⟩
   clear hK K
   refine tkr 3 fun K hK => ?_
   refine step_row rfl 88 (.tmp 9) (.tmp 59) rfl q9 #[.int .i64 3, .int .i64 k, .slice A9 n9 c9] (by rfl) (by rfl) 88 #[.int .i64 0, .int .i64 0, .slice none 0 0] R9f fltA_info rfl (by kernel_rfl) ?_
   refine hK.out _ _ ?_ (fun hHeld => ?_)
   ·try dsimp only
    exact ⟨HH.out, HH2.out⟩
   clear hK K
   refine wpAnyH_done (by kernel_rfl) ?_ _
   have bE := bdd
   have hbE := hbfd
   have hzE : (w10).heap.size ≤ wd.heap.size := by rw [hzd]; exact Nat.le_refl _
   have HRT := Lib.hid (RetUX.err (ex := ex) (w := w) (q8 := q8) (q9 := q9) (S := (Ex w9 (q8 :: q9 :: q10 :: g :: q14 :: ex))) bE hle8 (by omega) hbE (fun b hb => by have h := (show (b < (w10).heap.size ∧ b ≠ q8 ∧ b ≠ q9 ∧ b ∉ ex) from ⟨Nat.lt_of_lt_of_le hb.1 z10, fun e => hb.2 (by rw [e]; simp), fun e => hb.2 (by rw [e]; simp), fun hm => hb.2 (by simp [hm])⟩); exact ⟨Nat.lt_of_lt_of_le h.1 hzE, h.2⟩) hn9 HE.out)
   clear hbE hbfd bE
   refine HKK.out _ _ (wp_ret ?_)
   exact bodyPost_ret (upd_ret rfl _ _ q8 q9 _ _ _ _ _ _ _ _ _ _ _ _ _ (.int .i64 3) (.int .i64 k) (.slice A9 n9 c9) rfl rfl ((R8e.row _).rowFar (by omega) _) (R9f.row _)) rfl HRT.out
  | ok xa =>
   obtain ⟨x, ks⟩ := xa
   obtain ⟨A, n, c, A1, n1, c1, A2, n2, c2, Ak, nk, ck, rfl, d1, d2, d3, d4, hnk, hbd⟩ := hm9
   have HKS := Lib.hid (readAt_kinds HRD.out)
   have HNK := Lib.hid hnk
   have HBD := Lib.hid hbd
   have U9 : UA w9 (Ex w9 (q8 :: q9 :: q10 :: g :: q14 :: ex)) Ag ng gl A n x.path A1 n1 x.comms A2 n2 x.raws Ak nk ks := ⟨og9.dl (fun b h1 h2 => ⟨h2, fun hm => by
    have he := HEX.out b
    have h0 := b08.size
    simp at hm
    rcases hm with rfl | rfl | rfl | rfl | rfl | hm
    ·omega
    ·omega
    ·omega
    ·omega
    ·omega
    ·have := he hm; omega⟩), d1, d2, d3, d4⟩
   clear d1 d2 d3 d4 hnk hbd og9
   simp only
   go_upto_region 13 with fail
   obtain ⟨w10, hw10, R16, R18, b10⟩ := boxes2 w9 #[.int .i64 x.origin, .slice A n c, .int .u32 x.next, .int .i64 x.med, .int .i64 x.pref, .bool x.atomic, .bool x.hasAggr, .int .u32 x.aggrAS, .int .u32 x.aggrAddr, .slice A1 n1 c1, .slice A2 n2 c2] #[.int .i64 0, .int .i64 0, .slice none 0 0] 75 88
   try rw [hw10]
   obtain ⟨q16, hq16⟩ : ∃ x, w9.heap.size = x := ⟨_, rfl⟩
   obtain ⟨q18, hq18⟩ : ∃ x, q16 + 1 = x := ⟨_, rfl⟩
   have z10 := b10.size
   have U10 := U9.keep (S' := (Ex w9 (q8 :: q9 :: q10 :: g :: q14 :: ex))) (fun b hb => ⟨hb, b10.block b hb.1⟩)
   have h16 : q14 < q16 := by have := R14_9.lt; omega
   have h916 : w9.heap.size ≤ q16 := by omega
   clear c_R140 f_R140
   have b010 := btr b09 b10 b09.size
   have R8_10 := R8_9.below b10 R8_9.lt
   clear R8_9
   have R9_10 := R9_9.below b10 R9_9.lt
   clear R9_9
   have R10_10 := R10_9.below b10 R10_9.lt
   clear R10_9
   have R14_10 := R14_9.below b10 R14_9.lt
   clear R14_9
   have c_R140 := R14_10.cell 0
   have f_R140 := R14_10.frozen 0
   have r10 := r9.below b10 (by omega) (by omega)
   rw [hq16] at R16 R18
   try rw [hq16]
   rw [hq18] at R18
   try rw [hq18]
   have h16l := R16.lt
   clear hq16 hw10 U9 r9 b10
   have c_R180 := R18.cell 0
   have HLF := Lib.hid (rbLeft g l4 false w10 r10)
   have HTK := Lib.hid (show Calls Tryz.prog 87 #[.pointer (some ⟨g, 0, none⟩), .int .i64 (l4.length : Nat)] w10 fun en w'' => ∃ (A : Option Addr) (n c : Nat), en = .returned (.slice A n c) ∧ OB w'' 5 w10.heap.size A n c l4 ∧ RB Bd w'' g [] false ∧ w10.grownBy w'' (some g) by
    have h1 := rbTake g l4 false (l4.length : Nat) w10 r10 (by have := HLS.out; omega)
    have h2 := tk_yes (l := l4) (k := l4.length) (Nat.le_refl _)
    unfold TkPost at h1
    rw [h2.1, h2.2.1, h2.2.2, List.take_length, List.drop_length] at h1
    exact h1)
   have hlt9 : g < w9.heap.size := by have := hg14; have := R14_10.lt; omega
   go_wp2_with fail
   refine HLF.out.mono ?_
   rintro _ _ ⟨rfl, rfl⟩
   simp only [Bool.false_eq_true, if_false]
   go_wp2_with fail
   refine (HTK.out).mono ?_
   rintro _ w11 ⟨A11, n11, c11, rfl, o11, r11, g11⟩
   clear c_R140 f_R140 c_R180
   have z11 := g11.size
   have b011 := at_below b010 g11 b010.size (by omega)
   have R8_11 := R8_10.grown g11 (by intro e; injection e with e; omega)
   clear R8_10
   have R9_11 := R9_10.grown g11 (by intro e; injection e with e; omega)
   clear R9_10
   have R10_11 := R10_10.grown g11 (by intro e; injection e with e; omega)
   clear R10_10
   have R14_11 := R14_10.grown g11 (by intro e; injection e with e; omega)
   clear R14_10
   have R16_11 := R16.grown g11 (by intro e; injection e with e; omega)
   have R18_11 := R18.grown g11 (by intro e; injection e with e; omega)
   have c_R140 := R14_11.cell 0
   have f_R140 := R14_11.frozen 0
   have c_R180 := R18_11.cell 0
   have z11 := g11.size
   have U11 := U10.keep (S' := (Ex w9 (q8 :: q9 :: q10 :: g :: q14 :: ex))) (fun b hb => ⟨hb, g11.block b (Nat.lt_of_lt_of_le hb.1 z10) (fun e => by injection e with e; exact hb.2 (by rw [e]; simp))⟩)
   have s11 := o11.bs
   have hn11 := Lib.hid o11.1
   clear o11 U10 g11 r10
   obtain ⟨pn, hpn⟩ : ∃ x, pfxs l4 = x := ⟨_, rfl⟩
   have HL12 := Lib.hid (show Calls Tryz.prog 91 #[.slice A11 n11 c11] w11 (RetLs w11 pn) by rw [← hpn]; exact prefixList A11 n11 c11 l4 w11 s11 (by have := hn11.out; have := HLS.out; omega))
   have HPN := Lib.hid hpn
   clear hpn s11
   go_wp2_with fail
   refine HL12.out.mono ?_
   rintro e12 w12 ⟨b12, hm12⟩
   have z12 := b12.size
   have U12 := U11.keep (S' := (Ex w9 (q8 :: q9 :: q10 :: g :: q14 :: ex))) (fun b hb => ⟨hb, b12.block b (Nat.lt_of_lt_of_le (Nat.lt_of_lt_of_le hb.1 z10) z11)⟩)
   clear c_R140 f_R140 c_R180
   have b012 := btr b011 b12 b011.size
   have R8_12 := R8_11.below b12 R8_11.lt
   clear R8_11
   have R9_12 := R9_11.below b12 R9_11.lt
   clear R9_11
   have R10_12 := R10_11.below b12 R10_11.lt
   clear R10_11
   have R14_12 := R14_11.below b12 R14_11.lt
   clear R14_11
   have R16_12 := R16_11.below b12 R16_11.lt
   clear R16_11
   have R18_12 := R18_11.below b12 R18_11.lt
   clear R18_11
   have c_R140 := R14_12.cell 0
   have f_R140 := R14_12.frozen 0
   have c_R180 := R18_12.cell 0
   clear U11
   cases pn with
   | none =>
    obtain ⟨x', rfl, hx⟩ := hm12
    have tx : (x' != 0) = true := by simpa using hx
    have HE := Lib.hid (show res = .error (10, []) by rw [← HR0.out]; unfold updRead; rw [HCUT.out]; simp only [Bool.false_eq_true, if_false, HPG.out, HRD.out, HPN.out])
    clear hx U12
    clear c_R140 f_R140
    have c_R1412 := R14_12.cell 12
    have f_R1412 := R14_12.frozen 12
    go_upto_region 16 with fail
    obtain ⟨w13, hw13⟩ : ∃ Wz_, w12.setCell ⟨q14, 12, none⟩ (.slice none 0 0)= Wz_ := ⟨_, rfl⟩
    have R8_13 := R8_12.far (p := ⟨q14, 12, none⟩) (by show _ ≠ q14; omega) (.slice none 0 0)
    have R9_13 := R9_12.far (p := ⟨q14, 12, none⟩) (by show _ ≠ q14; omega) (.slice none 0 0)
    have R10_13 := R10_12.far (p := ⟨q14, 12, none⟩) (by show _ ≠ q14; omega) (.slice none 0 0)
    have R14_13 := R14_12.set_ 12 (.slice none 0 0)
    simp only [List.setIfInBounds_toArray, List.set_cons_succ, List.set_cons_zero] at R14_13
    have R16_13 := R16_12.far (p := ⟨q14, 12, none⟩) (by show _ ≠ q14; omega) (.slice none 0 0)
    have R18_13 := R18_12.far (p := ⟨q14, 12, none⟩) (by show _ ≠ q14; omega) (.slice none 0 0)
    have b013 := b012.setCell (p := ⟨q14, 12, none⟩) (by show _ ≤ q14; omega) (.slice none 0 0)
    have z_13 : w12.heap.size ≤ w13.heap.size := by rw [← hw13]; simp [World.setCell]
    rw [hw13] at R8_13 R9_13 R10_13 R14_13 R16_13 R18_13 b013
    rw [hw13]
    clear hw13
    clear c_R1412 f_R1412 c_R180
    clear R8_12
    clear R9_12
    clear R10_12
    clear R14_12
    clear R16_12
    clear R18_12
    have c_R1412 := R14_13.cell 12
    have f_R1412 := R14_13.frozen 12
    have c_R180 := R18_13.cell 0
    try clear HR0
    try clear HCUT
    try clear HLS
    try clear HU1
    try clear HT2
    try clear HU3
    try clear HT4
    try clear HE5
    try clear hn3
    try clear hn5
    try clear HL7
    try clear HPG
    try clear HAR
    try clear HRD
    try clear HKS
    try clear HNK
    try clear HBD
    try clear HLF
    try clear HTK
    try clear hn11
    try clear HL12
    try clear HPN
    try clear hlg
    try clear hln
    try clear hnn
    try clear HMI
    try clear HM
    try clear HFI
    try clear HF12
    try clear hlN
    try clear U9
    try clear U10
    try clear U11
    try clear U12
    try clear U13
    try clear U14
    try clear U15
    try clear dn13
    try clear dn14
    try clear dn15
    try clear o3
    try clear o35
    try clear o36
    try clear s5
    try clear s57
    try clear s58
    try clear r6
    try clear r7
    try clear r8
    try clear r9
    try clear r10
    try clear r11
    try clear z5
    try clear z7
    try clear z9
    try clear z11
    try clear z12
    try clear z13
    try clear z14
    try clear z15
    try clear z_8
    try clear z_13
    try clear b6'
    try clear hBd14
    try clear hlt9
    try clear h1114
    try clear hz13
    try clear h9le
    try clear hexB
    try clear h916
    try clear h16l
    try clear HT
    try clear hbl
    try clear hn0
    try clear og9
    try clear og8
    try clear hog8
    try clear hlN
    go_upto_region 17 with fail
    have R8d := R8_13.drew
    have R9d := R9_13.drew
    have R10d := R10_13.drew
    have bdd := (b013).drew
    have hbfd := BF.keep (S' := (fun _ => False)) ((⟨rfl, Rw.none_⟩ : BF w13 (fun _ => False) none 0 [])) (fun b hb => ⟨hb, rfl⟩ : Kp w13 (w13).drew _ _)
    obtain ⟨wd, hwd⟩ : ∃ x, (w13).drew = x := ⟨_, rfl⟩
    have hzd : wd.heap.size = (w13).heap.size := by rw [← hwd]; rfl
    rw [hwd] at R8d R9d R10d bdd hbfd
    have HWD := Lib.hid hwd
    clear hwd
    rename_i hk
    have HKK := Lib.hid hk
    clear hk
    refine wp_region_held_drew (S := (fun w' => Blk w' q10 77 #[.slice none 0 0, .int .i64 0, .slice none 0 0, .int .u32 0, .int .i64 0, .int .i64 0, .bool false, .bool false, .int .u32 0, .int .u32 0, .slice none 0 0, .slice none 0 0, .slice none 0 0])) (by kernel_rfl) ?_ (fun hHeld => ?_)
    ·rw [HWD.out]; exact R10d
    rw [HWD.out]
    rw [HWD.out] at hHeld
    refine wpAnyH_take (i := 0) (v := ?m5_v0) rfl (by kernel_rfl) (by kernel_rfl) (by kernel_rfl) (by intro _ _ _ h; exact h) (Or.inl ⟨by rfl, ?m5_hy0⟩) (by assumption) ?m5_rest0
    case m5_hy0 => (intro w hSw; (try dsimp only at hSw); have z0 := Blk.cell hSw 0; have z1 := Blk.cell hSw 1; have z2 := Blk.cell hSw 2; have z3 := Blk.cell hSw 3; have z4 := Blk.cell hSw 4; have z5 := Blk.cell hSw 5; have z6 := Blk.cell hSw 6; have z7 := Blk.cell hSw 7; have z8 := Blk.cell hSw 8; have z9 := Blk.cell hSw 9; have z10 := Blk.cell hSw 10; have z11 := Blk.cell hSw 11; have z12 := Blk.cell hSw 12; clear hSw; go_simp; try with_reducible rfl)
    try simp only [Act.put, q1, q2, q3, q4, q5, q6]
    refine tkr 1 fun K hK => ?_
    go_simp
    go_wp2_with (go_at_call 90; refine (updFault 10 none 0 0 _).mono ?_; rintro _ we ⟨rfl, be⟩; have R8e := R8d.below be R8d.lt; have R9e := R9d.below be R9d.lt; have R10e := R10d.below be R10d.lt)
    refine hK.out _ _ ?_ (fun hHeld => ?_)
    ·try dsimp only
     exact R10e
    clear hK K
    have R9f := R9e.rowFar (k := q8) (by omega) #[.slice none 0 0, .int .i64 0, .slice none 0 0, .int .u32 0, .int .i64 0, .int .i64 0, .bool false, .bool false, .int .u32 0, .int .u32 0, .slice none 0 0, .slice none 0 0, .slice none 0 0]
    have HF := Lib.hid (R10e.rowFar (k := q8) (by omega) #[.slice none 0 0, .int .i64 0, .slice none 0 0, .int .u32 0, .int .i64 0, .int .i64 0, .bool false, .bool false, .int .u32 0, .int .u32 0, .slice none 0 0, .slice none 0 0, .slice none 0 0])
    have HH := Lib.hid ((R10e.rowFar (k := q8) (by omega) #[.slice none 0 0, .int .i64 0, .slice none 0 0, .int .u32 0, .int .i64 0, .int .i64 0, .bool false, .bool false, .int .u32 0, .int .u32 0, .slice none 0 0, .slice none 0 0, .slice none 0 0]).rowFar (k := q9) (by omega) #[.int .i64 3, .int .i64 10, .slice none 0 0])
    refine tkr 2 fun K hK => ?_
    refine step_row rfl 77 (.tmp 8) (.tmp 71) rfl q8 #[.slice none 0 0, .int .i64 0, .slice none 0 0, .int .u32 0, .int .i64 0, .int .i64 0, .bool false, .bool false, .int .u32 0, .int .u32 0, .slice none 0 0, .slice none 0 0, .slice none 0 0] (by rfl) (by rfl) 77 #[.slice none 0 0, .int .i64 0, .slice none 0 0, .int .u32 0, .int .i64 0, .int .i64 0, .bool false, .bool false, .int .u32 0, .int .u32 0, .slice none 0 0, .slice none 0 0, .slice none 0 0] R8e upd_info1 rfl (by kernel_rfl) ?_
    refine hK.out _ _ ?_ (fun hHeld => ?_)
    ·try dsimp only
     exact HF.out
    clear hK K
    refine tkr 3 fun K hK => ?_
    refine step_row rfl 88 (.tmp 9) (.tmp 72) rfl q9 #[.int .i64 3, .int .i64 10, .slice none 0 0] (by rfl) (by rfl) 88 #[.int .i64 0, .int .i64 0, .slice none 0 0] R9f fltA_info rfl (by kernel_rfl) ?_
    refine hK.out _ _ ?_ (fun hHeld => ?_)
    ·try dsimp only
     exact HH.out
    clear hK K
    refine wpAnyH_done (by kernel_rfl) ?_ _
    have bE := btr bdd be bdd.size
    have hbE := hbfd.keep (S' := (fun _ => False)) (fun b hb => ⟨hb, be.block b (by rw [hzd]; exact ((show (b < (w13).heap.size ∧ b ≠ q8 ∧ b ≠ q9 ∧ b ∉ ex) from hb.elim)).1)⟩)
    have hzE : (w13).heap.size ≤ we.heap.size := by rw [← hzd]; exact be.size
    have HRT := Lib.hid (RetUX.err (ex := ex) (w := w) (q8 := q8) (q9 := q9) (S := (fun _ => False)) bE hle8 (by omega) hbE (fun b hb => by have h := (show (b < (w13).heap.size ∧ b ≠ q8 ∧ b ≠ q9 ∧ b ∉ ex) from hb.elim); exact ⟨Nat.lt_of_lt_of_le h.1 hzE, h.2⟩) (Nat.le_refl _) HE.out)
    clear hbE hbfd bE
    refine HKK.out _ _ (wp_ret ?_)
    exact bodyPost_ret (upd_ret rfl _ _ q8 q9 _ _ _ _ _ _ _ _ _ _ _ _ _ (.int .i64 3) (.int .i64 10) (.slice none 0 0) rfl rfl ((R8e.row _).rowFar (by omega) _) (R9f.row _)) rfl HRT.out
   | some nl =>
    obtain ⟨An, nn, cn, rfl, on⟩ := hm12
    clear c_R140 f_R140
    have c_R1412 := R14_12.cell 12
    have f_R1412 := R14_12.frozen 12
    go_upto_region 16 with fail
    have h1114 : q14 < w11.heap.size := by have := R14_12.lt; omega
    have honk : ∀ k, Value.ownBlock (.slice An nn cn) = some k → w11.heap.size ≤ k := fun k hk => (on.2.1.lt k hk).1
    have on13 := on.keep (w' := w12.setCell ⟨q14, 12, none⟩ (.slice An nn cn)) (fun k hk => Below.heap_setCell w12 _ _ k (by have := honk k hk; show k ≠ q14; omega))
    have U13 := U12.keep (S' := (Ex w9 (q8 :: q9 :: q10 :: g :: q14 :: ex))) (w' := w12.setCell ⟨q14, 12, none⟩ (.slice An nn cn)) (fun b hb => ⟨hb, Below.heap_setCell w12 _ _ b (fun e => hb.2 (by rw [show b = q14 from e]; simp))⟩)
    obtain ⟨w13, hw13⟩ : ∃ Wz_, w12.setCell ⟨q14, 12, none⟩ (.slice An nn cn)= Wz_ := ⟨_, rfl⟩
    have R8_13 := R8_12.far (p := ⟨q14, 12, none⟩) (by show _ ≠ q14; omega) (.slice An nn cn)
    have R9_13 := R9_12.far (p := ⟨q14, 12, none⟩) (by show _ ≠ q14; omega) (.slice An nn cn)
    have R10_13 := R10_12.far (p := ⟨q14, 12, none⟩) (by show _ ≠ q14; omega) (.slice An nn cn)
    have R14_13 := R14_12.set_ 12 (.slice An nn cn)
    simp only [List.setIfInBounds_toArray, List.set_cons_succ, List.set_cons_zero] at R14_13
    have R16_13 := R16_12.far (p := ⟨q14, 12, none⟩) (by show _ ≠ q14; omega) (.slice An nn cn)
    have R18_13 := R18_12.far (p := ⟨q14, 12, none⟩) (by show _ ≠ q14; omega) (.slice An nn cn)
    have b013 := b012.setCell (p := ⟨q14, 12, none⟩) (by show _ ≤ q14; omega) (.slice An nn cn)
    have z_13 : w12.heap.size ≤ w13.heap.size := by rw [← hw13]; simp [World.setCell]
    rw [hw13] at R8_13 R9_13 R10_13 R14_13 R16_13 R18_13 b013 on13 U13
    rw [hw13]
    clear hw13
    clear c_R1412 f_R1412 c_R180
    clear R8_12
    clear R9_12
    clear R10_12
    clear R14_12
    clear R16_12
    clear R18_12
    have c_R1412 := R14_13.cell 12
    have f_R1412 := R14_13.frozen 12
    have c_R180 := R18_13.cell 0
    have hz13 : w9.heap.size ≤ w13.heap.size := by omega
    have dn13 := on13.dl (S := fun b => w11.heap.size ≤ b ∧ b < w13.heap.size) (fun b h1 h2 => ⟨h1, h2⟩)
    have hlg := Lib.hid (show gl.length ≤ 100000 by have h1 := pfxs_len _ gb gl (Nat.le_refl _) HPG.out; have := HLS.out; omega)
    have hln := Lib.hid (show nl.length ≤ 100000 by have h1 := pfxs_len _ l4 nl (Nat.le_refl _) HPN.out; have := HLS.out; omega)
    have hnn := Lib.hid on13.1
    clear on on13 U12 honk
    have h9le : w9.heap.size ≤ w11.heap.size := by omega
    have hexB : ∀ b, w11.heap.size ≤ b → b ≠ q8 ∧ b ≠ q9 ∧ b ∉ ex := fun b h1 => ⟨by omega, by omega, fun hm => by have := HEX.out b hm; omega⟩
    by_cases hn0 : nn = 0
    case pos =>
     have t0 : ((nn : Int) == 0) = true := by simp [hn0]
     have t1 : (nn == 0) = true := by simp [hn0]
     have hl0 : nl.length = 0 := by have := hnn.out; omega
     have HE := Lib.hid (show res = .ok ⟨gl, noAt, nl⟩ by rw [← HR0.out]; unfold updRead; rw [HCUT.out]; simp only [Bool.false_eq_true, if_false, HPG.out, HRD.out, HPN.out, hl0, if_true]; rw [List.eq_nil_of_length_eq_zero hl0])
     have dg := U13.1
     clear hn0 hl0 U13
     have R14n := R14_13
     have R8e := R8_13
     have R9f := (R9_13).rowFar (k := q8) (by omega) #[.slice Ag ng cg, .int .i64 0, .slice none 0 0, .int .u32 0, .int .i64 0, .int .i64 0, .bool false, .bool false, .int .u32 0, .int .u32 0, .slice none 0 0, .slice none 0 0, .slice An nn cn]
     have HRT := Lib.hid (RetUX.ok (ex := ex) (w := w) (q8 := q8) (q9 := q9) (S := (fun b => (Ex w9 (q8 :: q9 :: q10 :: g :: q14 :: ex)) b ∨ (w11.heap.size ≤ b ∧ b < w13.heap.size))) (u := ⟨gl, noAt, nl⟩) Ag ng cg none 0 0 none 0 0 none 0 0 An nn cn b013 hle8 (by omega) (dg.keep rPfx_ok (Kp.sub fun b hb => .inl hb)) DL.none_ NF.none_ DL.none_ (dn13.keep rPfx_ok (Kp.sub fun b hb => .inr hb)) (fun b hb => by
      rcases hb with hb | hb
      ·exact ⟨Nat.lt_of_lt_of_le hb.1 hz13, fun e => hb.2 (by rw [e]; simp), fun e => hb.2 (by rw [e]; simp), fun hm => hb.2 (by simp [hm])⟩
      ·exact ⟨Nat.lt_of_lt_of_le hb.2 (Nat.le_refl _), hexB b hb.1⟩) ⟨⟨.inr rfl, by simp [noAt], by simp [noAt], by simp [noAt]⟩, hlg.out, hln.out⟩ HE.out)
     go_upto_region 19 with fail
     rename_i hk
     have HKK := Lib.hid hk
     clear hk
     refine wp_region_lit ?_
     refine wpList_load_row rfl 77 (.tmp 14) rfl q14 (by rfl) 77 #[.slice Ag ng cg, .int .i64 0, .slice none 0 0, .int .u32 0, .int .i64 0, .int .i64 0, .bool false, .bool false, .int .u32 0, .int .u32 0, .slice none 0 0, .slice none 0 0, .slice An nn cn] (0, 0) _ R14n Tryz.underlying77 rfl upd_info1 ?_
     refine wpList_plain rfl (fun K hK => ?_)
     go_simp
     refine hK _ _ ?_
     clear hK K
     refine wpList_store_row rfl 77 (.tmp 8) (.tmp 77) rfl q8 #[.slice Ag ng cg, .int .i64 0, .slice none 0 0, .int .u32 0, .int .i64 0, .int .i64 0, .bool false, .bool false, .int .u32 0, .int .u32 0, .slice none 0 0, .slice none 0 0, .slice An nn cn] (by rfl) (by rfl) 77 #[.slice none 0 0, .int .i64 0, .slice none 0 0, .int .u32 0, .int .i64 0, .int .i64 0, .bool false, .bool false, .int .u32 0, .int .u32 0, .slice none 0 0, .slice none 0 0, .slice none 0 0] R8e upd_info1 rfl (by kernel_rfl) ?_
     refine wpList_store_row rfl 88 (.tmp 9) (.tmp 78) rfl q9 #[.int .i64 0, .int .i64 0, .slice none 0 0] (by rfl) (by rfl) 88 #[.int .i64 0, .int .i64 0, .slice none 0 0] R9f fltA_info rfl (by kernel_rfl) ?_
     go_simp
     refine HKK.out _ _ (wp_ret ?_)
     exact bodyPost_ret (upd_ret rfl _ _ q8 q9 _ _ _ _ _ _ _ _ _ _ _ _ _ (.int .i64 0) (.int .i64 0) (.slice none 0 0) rfl rfl ((R8e.row _).rowFar (by omega) _) (R9f.row _)) rfl HRT.out
    have t0 : ((nn : Int) == 0) = false := by simp [hn0]
    have t1 : (nn == 0) = false := by simp [hn0]
    have hlN := Lib.hid (show ¬ nl.length = 0 by have := hnn.out; omega)
    clear hn0
    have hmle := missK_le ks inner
    obtain ⟨m, hm⟩ : ∃ m, missK ks inner = m := ⟨_, rfl⟩
    rw [hm] at hmle
    have HMI := Lib.hid (show Calls Tryz.prog 94 #[.slice Ak nk ck, .bool inner] w13 (fun en w' => en = .returned (.int .u8 m) ∧ Below w13.heap.size w13 w') by rw [← hm]; exact updMissing Ak nk ck ks inner w13 (U13.2.2.2.2.reads (fun b hb => Nat.lt_of_lt_of_le hb.1 hz13)) HNK.out (by have := HNK.out; have := HKS.out; have := HLS.out; omega))
    have HM := Lib.hid hm
    clear hm
    go_wp2_with fail
    refine HMI.out.mono ?_
    rintro _ w14 ⟨rfl, b14⟩
    have z14 := b14.size
    have U14 := U13.keep (S' := (Ex w9 (q8 :: q9 :: q10 :: g :: q14 :: ex))) (fun b hb => ⟨hb, b14.block b (Nat.lt_of_lt_of_le hb.1 hz13)⟩)
    have dn14 := dn13.keep (S' := fun b => w11.heap.size ≤ b ∧ b < w13.heap.size) rPfx_ok (fun b hb => ⟨hb, b14.block b hb.2⟩)
    clear c_R1412 f_R1412 c_R180
    have b014 := btr b013 b14 b013.size
    have R8_14 := R8_13.below b14 R8_13.lt
    clear R8_13
    have R9_14 := R9_13.below b14 R9_13.lt
    clear R9_13
    have R10_14 := R10_13.below b14 R10_13.lt
    clear R10_13
    have R14_14 := R14_13.below b14 R14_13.lt
    clear R14_13
    have R16_14 := R16_13.below b14 R16_13.lt
    clear R16_13
    have R18_14 := R18_13.below b14 R18_13.lt
    clear R18_13
    have c_R1412 := R14_14.cell 12
    have f_R1412 := R14_14.frozen 12
    have c_R180 := R18_14.cell 0
    clear U13 dn13
    by_cases hm0 : m = 0
    case neg =>
     have tm : (m != 0) = true := by simpa using hm0
     have hm255 : 0 ≤ m ∧ m ≤ 255 := by omega
     have HE := Lib.hid (show res = .error (3, [ub m]) by rw [← HR0.out]; unfold updRead; rw [HCUT.out]; simp only [Bool.false_eq_true, if_false, HPG.out, HRD.out, HPN.out]; rw [if_neg hlN.out, HM.out, if_pos hm0])
     clear U14 dn14 hmle hm0
     try clear HR0
     try clear HCUT
     try clear HLS
     try clear HU1
     try clear HT2
     try clear HU3
     try clear HT4
     try clear HE5
     try clear hn3
     try clear hn5
     try clear HL7
     try clear HPG
     try clear HAR
     try clear HRD
     try clear HKS
     try clear HNK
     try clear HBD
     try clear HLF
     try clear HTK
     try clear hn11
     try clear HL12
     try clear HPN
     try clear hlg
     try clear hln
     try clear hnn
     try clear HMI
     try clear HM
     try clear HFI
     try clear HF12
     try clear hlN
     try clear U9
     try clear U10
     try clear U11
     try clear U12
     try clear U13
     try clear U14
     try clear U15
     try clear dn13
     try clear dn14
     try clear dn15
     try clear o3
     try clear o35
     try clear o36
     try clear s5
     try clear s57
     try clear s58
     try clear r6
     try clear r7
     try clear r8
     try clear r9
     try clear r10
     try clear r11
     try clear z5
     try clear z7
     try clear z9
     try clear z11
     try clear z12
     try clear z13
     try clear z14
     try clear z15
     try clear z_8
     try clear z_13
     try clear b6'
     try clear hBd14
     try clear hlt9
     try clear h1114
     try clear hz13
     try clear h9le
     try clear hexB
     try clear h916
     try clear h16l
     try clear HT
     try clear hbl
     try clear hn0
     try clear og9
     try clear og8
     try clear hog8
     try clear hlN
     go_upto_region 22 with fail
     have R8d := R8_14.drew
     have R9d := R9_14.drew
     have R10d := R10_14.drew
     have bdd := (b014).drew

     obtain ⟨wd, hwd⟩ : ∃ x, (w14).drew = x := ⟨_, rfl⟩
     have hzd : wd.heap.size = (w14).heap.size := by rw [← hwd]; rfl
     rw [hwd] at R8d R9d R10d bdd
     have HWD := Lib.hid hwd
     clear hwd
     rename_i hk
     have HKK := Lib.hid hk
     clear hk
     refine wp_region_held_drew (S := (fun w' => Blk w' q10 77 #[.slice none 0 0, .int .i64 0, .slice none 0 0, .int .u32 0, .int .i64 0, .int .i64 0, .bool false, .bool false, .int .u32 0, .int .u32 0, .slice none 0 0, .slice none 0 0, .slice none 0 0])) (by kernel_rfl) ?_ (fun hHeld => ?_)
     ·rw [HWD.out]; exact R10d
     rw [HWD.out]
     rw [HWD.out] at hHeld
     refine wpAnyH_take (i := 0) (v := ?m6_v0) rfl (by kernel_rfl) (by kernel_rfl) (by kernel_rfl) (by intro _ _ _ h; exact h) (Or.inl ⟨by rfl, ?m6_hy0⟩) (by assumption) ?m6_rest0
     case m6_hy0 => (intro w hSw; (try dsimp only at hSw); have z0 := Blk.cell hSw 0; have z1 := Blk.cell hSw 1; have z2 := Blk.cell hSw 2; have z3 := Blk.cell hSw 3; have z4 := Blk.cell hSw 4; have z5 := Blk.cell hSw 5; have z6 := Blk.cell hSw 6; have z7 := Blk.cell hSw 7; have z8 := Blk.cell hSw 8; have z9 := Blk.cell hSw 9; have z10 := Blk.cell hSw 10; have z11 := Blk.cell hSw 11; have z12 := Blk.cell hSw 12; clear hSw; go_simp; try with_reducible rfl)
     try simp only [Act.put, q1, q2, q3, q4, q5, q6]
     refine tkh 1 (h := ?_)
     try simp only [Act.put, q1, q2, q3, q4, q5, q6]
     refine tkr 2 fun K hK => ?_
     go_simp
     go_wp2_with (fail)
     refine hK.out _ _ ?_ (fun hHeld => ?_)
     ·try dsimp only
      exact R10d.alloc _
     clear hK K
     refine tkr 3 fun K hK => ?_
     go_simp
     go_wp2_with (go_at_call 90; refine (updFault 3 (some ⟨w14.heap.size, 0, none⟩) 1 1 _).mono ?_; rintro _ we ⟨rfl, be⟩; have R8e := (R8d.alloc _).below be (R8d.alloc _).lt; have R9e := (R9d.alloc _).below be (R9d.alloc _).lt; have R10e := (R10d.alloc _).below be (R10d.alloc _).lt)
     refine hK.out _ _ ?_ (fun hHeld => ?_)
     ·try dsimp only
      exact R10e
     clear hK K
     have R9f := R9e.rowFar (k := q8) (by omega) #[.slice none 0 0, .int .i64 0, .slice none 0 0, .int .u32 0, .int .i64 0, .int .i64 0, .bool false, .bool false, .int .u32 0, .int .u32 0, .slice none 0 0, .slice none 0 0, .slice none 0 0]
     have HF := Lib.hid (R10e.rowFar (k := q8) (by omega) #[.slice none 0 0, .int .i64 0, .slice none 0 0, .int .u32 0, .int .i64 0, .int .i64 0, .bool false, .bool false, .int .u32 0, .int .u32 0, .slice none 0 0, .slice none 0 0, .slice none 0 0])
     have HH := Lib.hid ((R10e.rowFar (k := q8) (by omega) #[.slice none 0 0, .int .i64 0, .slice none 0 0, .int .u32 0, .int .i64 0, .int .i64 0, .bool false, .bool false, .int .u32 0, .int .u32 0, .slice none 0 0, .slice none 0 0, .slice none 0 0]).rowFar (k := q9) (by omega) #[.int .i64 3, .int .i64 3, .slice (some ⟨w14.heap.size, 0, none⟩) 1 1])
     refine tkr 4 fun K hK => ?_
     refine step_row rfl 77 (.tmp 8) (.tmp 84) rfl q8 #[.slice none 0 0, .int .i64 0, .slice none 0 0, .int .u32 0, .int .i64 0, .int .i64 0, .bool false, .bool false, .int .u32 0, .int .u32 0, .slice none 0 0, .slice none 0 0, .slice none 0 0] (by rfl) (by rfl) 77 #[.slice none 0 0, .int .i64 0, .slice none 0 0, .int .u32 0, .int .i64 0, .int .i64 0, .bool false, .bool false, .int .u32 0, .int .u32 0, .slice none 0 0, .slice none 0 0, .slice none 0 0] R8e upd_info1 rfl (by kernel_rfl) ?_
     refine hK.out _ _ ?_ (fun hHeld => ?_)
     ·try dsimp only
      exact HF.out
     clear hK K
     refine tkr 5 fun K hK => ?_
     refine step_row rfl 88 (.tmp 9) (.tmp 87) rfl q9 #[.int .i64 3, .int .i64 3, .slice (some ⟨w14.heap.size, 0, none⟩) 1 1] (by rfl) (by rfl) 88 #[.int .i64 0, .int .i64 0, .slice none 0 0] R9f fltA_info rfl (by kernel_rfl) ?_
     refine hK.out _ _ ?_ (fun hHeld => ?_)
     ·try dsimp only
      exact HH.out
     clear hK K
     refine wpAnyH_done (by kernel_rfl) ?_ _
     have bE := btr (bdd.alloc bdd.size _) be (Nat.le_trans bdd.size (by simp))
     have hbE := BF.oneU ((Blk.new wd 5 #[.int .u8 m]).below be (by simp)) (by omega) (by omega)
     rw [hzd] at hbE
     have hzE : wd.heap.size < we.heap.size := by have := be.size; simp at this; omega
     rw [hzd] at hzE
     have hz8d := R8d.lt
     have hz9d := R9d.lt
     have HRT := Lib.hid (RetUX.err (ex := ex) (w := w) (q8 := q8) (q9 := q9) (S := (fun b => b = w14.heap.size)) bE hle8 (by omega) hbE (fun b hb => by have h := (show b < we.heap.size ∧ b ≠ q8 ∧ b ≠ q9 ∧ b ∉ ex by have hb : b = w14.heap.size := hb; subst hb; exact ⟨hzE, by omega, by omega, fun hm => by have h1 := HEX.out _ hm; have h2 := bdd.size; omega⟩); exact h) (Nat.le_refl _) HE.out)
     clear hbE bE
     refine HKK.out _ _ (wp_ret ?_)
     exact bodyPost_ret (upd_ret rfl _ _ q8 q9 _ _ _ _ _ _ _ _ _ _ _ _ _ (.int .i64 3) (.int .i64 3) (.slice (some ⟨w14.heap.size, 0, none⟩) 1 1) rfl rfl ((R8e.row _).rowFar (by omega) _) (R9f.row _)) rfl HRT.out
    subst hm0
    clear hmle
    obtain ⟨f12, hf12⟩ : ∃ f, firstA x.path = f := ⟨_, rfl⟩
    obtain ⟨f1, f2⟩ := f12
    have HFI := Lib.hid (show Calls Tryz.prog 95 #[.slice A n c] w14 (fun e w' => e = .returned (.tuple #[.int .u32 f1, .bool f2]) ∧ Below w14.heap.size w14 w') by
     have := aspFirst A n c x.path w14 (U14.2.1.keep rSeg_ok (Kp.sub fun b hb => Nat.lt_of_lt_of_le hb.1 (Nat.le_trans hz13 z14)))
     rw [hf12] at this
     exact this)
    have HF12 := Lib.hid hf12
    clear hf12
    have c_R161 := R16_14.cell 1
    go_wp2_with fail
    refine HFI.out.mono ?_
    rintro _ w15 ⟨rfl, b15⟩
    have z15 := b15.size
    have U15 := U14.keep (S' := (Ex w9 (q8 :: q9 :: q10 :: g :: q14 :: ex))) (fun b hb => ⟨hb, b15.block b (Nat.lt_of_lt_of_le hb.1 (Nat.le_trans hz13 z14))⟩)
    have dn15 := dn14.keep (S' := fun b => w11.heap.size ≤ b ∧ b < w13.heap.size) rPfx_ok (fun b hb => ⟨hb, b15.block b (Nat.lt_of_lt_of_le hb.2 z14)⟩)
    clear c_R1412 f_R1412 c_R161 c_R180
    have b015 := btr b014 b15 b014.size
    have R8_15 := R8_14.below b15 R8_14.lt
    clear R8_14
    have R9_15 := R9_14.below b15 R9_14.lt
    clear R9_14
    have R10_15 := R10_14.below b15 R10_14.lt
    clear R10_14
    have R14_15 := R14_14.below b15 R14_14.lt
    clear R14_14
    have R16_15 := R16_14.below b15 R16_14.lt
    clear R16_14
    have R18_15 := R18_14.below b15 R18_14.lt
    clear R18_14
    have c_R1412 := R14_15.cell 12
    have f_R1412 := R14_15.frozen 12
    have c_R161 := R16_15.cell 1
    have c_R180 := R18_15.cell 0
    clear U14 dn14
    cases inner
    case true =>
     have HE := Lib.hid (show res = .ok ⟨gl, x, nl⟩ by rw [← HR0.out]; unfold updRead; rw [HCUT.out]; simp only [Bool.false_eq_true, if_false, HPG.out, HRD.out, HPN.out]; rw [if_neg hlN.out, HM.out, if_neg (by decide), HF12.out, if_neg (fun h => by cases h.1)]; (try rfl))
     clear c_R161
     have c_R160 := R16_15.cell 0
     have c_R161 := R16_15.cell 1
     have c_R162 := R16_15.cell 2
     have c_R163 := R16_15.cell 3
     have c_R164 := R16_15.cell 4
     have c_R165 := R16_15.cell 5
     have c_R166 := R16_15.cell 6
     have c_R167 := R16_15.cell 7
     have c_R168 := R16_15.cell 8
     have c_R169 := R16_15.cell 9
     have c_R1610 := R16_15.cell 10
     clear c_R1412 f_R1412
     have c_R140 := R14_15.cell 0
     have f_R140 := R14_15.frozen 0
     have c_R141 := R14_15.cell 1
     have f_R141 := R14_15.frozen 1
     have c_R142 := R14_15.cell 2
     have f_R142 := R14_15.frozen 2
     have c_R143 := R14_15.cell 3
     have f_R143 := R14_15.frozen 3
     have c_R144 := R14_15.cell 4
     have f_R144 := R14_15.frozen 4
     have c_R145 := R14_15.cell 5
     have f_R145 := R14_15.frozen 5
     have c_R146 := R14_15.cell 6
     have f_R146 := R14_15.frozen 6
     have c_R147 := R14_15.cell 7
     have f_R147 := R14_15.frozen 7
     have c_R148 := R14_15.cell 8
     have f_R148 := R14_15.frozen 8
     have c_R149 := R14_15.cell 9
     have f_R149 := R14_15.frozen 9
     have c_R1410 := R14_15.cell 10
     have f_R1410 := R14_15.frozen 10
     have c_R1411 := R14_15.cell 11
     have f_R1411 := R14_15.frozen 11
     have c_R1412 := R14_15.cell 12
     have f_R1412 := R14_15.frozen 12
     go_upto_region 29 with fail
     have hzW : w13.heap.size ≤ (w15).heap.size := by omega
     have gA := att_in_grown (q := q14) (x0 := .int .i64 x.origin) (x1 := .slice A n c) (x2 := .int .u32 x.next) (x3 := .int .i64 x.med) (x4 := .int .i64 x.pref) (x5 := .bool x.atomic) (x6 := .bool x.hasAggr) (x7 := .int .u32 x.aggrAS) (x8 := .int .u32 x.aggrAddr) (x9 := .slice A1 n1 c1) (x10 := .slice A2 n2 c2) w15
     have R14n := att_in (x0 := .int .i64 x.origin) (x1 := .slice A n c) (x2 := .int .u32 x.next) (x3 := .int .i64 x.med) (x4 := .int .i64 x.pref) (x5 := .bool x.atomic) (x6 := .bool x.hasAggr) (x7 := .int .u32 x.aggrAS) (x8 := .int .u32 x.aggrAddr) (x9 := .slice A1 n1 c1) (x10 := .slice A2 n2 c2) R14_15
     have R8n := R8_15.grown gA (by intro e; injection e with e; omega)
     have R9n := R9_15.grown gA (by intro e; injection e with e; omega)
     have U16 := U15.keep (S' := (Ex w9 (q8 :: q9 :: q10 :: g :: q14 :: ex))) (fun b hb => ⟨hb, gA.block b (Nat.lt_of_lt_of_le (Nat.lt_of_lt_of_le hb.1 hz13) hzW) (fun e => by injection e with e; exact hb.2 (by rw [e]; simp))⟩)
     have dn16 := dn15.keep (S' := fun b => w11.heap.size ≤ b ∧ b < w13.heap.size) rPfx_ok (fun b hb => ⟨hb, gA.block b (Nat.lt_of_lt_of_le hb.2 hzW) (fun e => by injection e with e; have := hb.1; omega)⟩)
     have b16 := (b015).grown gA (b015).size (fun k hk => by injection hk with hk; omega)
     have z16 := gA.size
     obtain ⟨w16, hw16⟩ : ∃ X, (World.setCell (World.setCell (World.setCell (World.setCell (World.setCell (World.setCell (World.setCell (World.setCell (World.setCell (World.setCell (World.setCell w15 ⟨q14, 1, none⟩ (.int .i64 x.origin)) ⟨q14, 2, none⟩ (.slice A n c)) ⟨q14, 3, none⟩ (.int .u32 x.next)) ⟨q14, 4, none⟩ (.int .i64 x.med)) ⟨q14, 5, none⟩ (.int .i64 x.pref)) ⟨q14, 6, none⟩ (.bool x.atomic)) ⟨q14, 7, none⟩ (.bool x.hasAggr)) ⟨q14, 8, none⟩ (.int .u32 x.aggrAS)) ⟨q14, 9, none⟩ (.int .u32 x.aggrAddr)) ⟨q14, 10, none⟩ (.slice A1 n1 c1)) ⟨q14, 11, none⟩ (.slice A2 n2 c2)) = X := ⟨_, rfl⟩
     rw [hw16] at R14n R8n R9n U16 dn16 b16 z16
     rw [hw16]
     clear hw16 gA
     clear c_R140 f_R140 c_R141 f_R141 c_R142 f_R142 c_R143 f_R143 c_R144 f_R144 c_R145 f_R145 c_R146 f_R146 c_R147 f_R147 c_R148 f_R148 c_R149 f_R149 c_R1410 f_R1410 c_R1411 f_R1411 c_R1412 f_R1412
     clear c_R160 c_R161 c_R162 c_R163 c_R164 c_R165 c_R166 c_R167 c_R168 c_R169 c_R1610
     clear c_R180
     have R8e := R8n
     have R9f := (R9n).rowFar (k := q8) (by omega) #[.slice Ag ng cg, .int .i64 x.origin, .slice A n c, .int .u32 x.next, .int .i64 x.med, .int .i64 x.pref, .bool x.atomic, .bool x.hasAggr, .int .u32 x.aggrAS, .int .u32 x.aggrAddr, .slice A1 n1 c1, .slice A2 n2 c2, .slice An nn cn]
     have HRT := Lib.hid (RetUX.ok (ex := ex) (w := w) (q8 := q8) (q9 := q9) (S := (fun b => (Ex w9 (q8 :: q9 :: q10 :: g :: q14 :: ex)) b ∨ (w11.heap.size ≤ b ∧ b < w13.heap.size))) (u := ⟨gl, x, nl⟩) Ag ng cg A n c A1 n1 c1 A2 n2 c2 An nn cn b16 hle8 (by omega) (U16.1.keep rPfx_ok (Kp.sub fun b hb => .inl hb)) (U16.2.1.keep rSeg_ok (Kp.sub fun b hb => .inl hb)) (U16.2.2.1.keep (Kp.sub fun b hb => .inl hb)) (U16.2.2.2.1.keep rRaw_ok (Kp.sub fun b hb => .inl hb)) (dn16.keep rPfx_ok (Kp.sub fun b hb => .inr hb)) (fun b hb => by
      rcases hb with hb | hb
      ·exact ⟨Nat.lt_of_lt_of_le hb.1 (Nat.le_trans hz13 (Nat.le_trans hzW z16)), fun e => hb.2 (by rw [e]; simp), fun e => hb.2 (by rw [e]; simp), fun hm => hb.2 (by simp [hm])⟩
      ·exact ⟨Nat.lt_of_lt_of_le hb.2 (Nat.le_trans hzW z16), hexB b hb.1⟩) ⟨HBD.out, hlg.out, hln.out⟩ HE.out)
     go_upto_region 29 with fail
     rename_i hk
     have HKK := Lib.hid hk
     clear hk
     refine wp_region_lit ?_
     refine wpList_load_row rfl 77 (.tmp 14) rfl q14 (by rfl) 77 #[.slice Ag ng cg, .int .i64 x.origin, .slice A n c, .int .u32 x.next, .int .i64 x.med, .int .i64 x.pref, .bool x.atomic, .bool x.hasAggr, .int .u32 x.aggrAS, .int .u32 x.aggrAddr, .slice A1 n1 c1, .slice A2 n2 c2, .slice An nn cn] (0, 0) _ R14n Tryz.underlying77 rfl upd_info1 ?_
     refine wpList_plain rfl (fun K hK => ?_)
     go_simp
     refine hK _ _ ?_
     clear hK K
     refine wpList_store_row rfl 77 (.tmp 8) (.tmp 116) rfl q8 #[.slice Ag ng cg, .int .i64 x.origin, .slice A n c, .int .u32 x.next, .int .i64 x.med, .int .i64 x.pref, .bool x.atomic, .bool x.hasAggr, .int .u32 x.aggrAS, .int .u32 x.aggrAddr, .slice A1 n1 c1, .slice A2 n2 c2, .slice An nn cn] (by rfl) (by rfl) 77 #[.slice none 0 0, .int .i64 0, .slice none 0 0, .int .u32 0, .int .i64 0, .int .i64 0, .bool false, .bool false, .int .u32 0, .int .u32 0, .slice none 0 0, .slice none 0 0, .slice none 0 0] R8e upd_info1 rfl (by kernel_rfl) ?_
     refine wpList_store_row rfl 88 (.tmp 9) (.tmp 117) rfl q9 #[.int .i64 0, .int .i64 0, .slice none 0 0] (by rfl) (by rfl) 88 #[.int .i64 0, .int .i64 0, .slice none 0 0] R9f fltA_info rfl (by kernel_rfl) ?_
     go_simp
     refine HKK.out _ _ (wp_ret ?_)
     exact bodyPost_ret (upd_ret rfl _ _ q8 q9 _ _ _ _ _ _ _ _ _ _ _ _ _ (.int .i64 0) (.int .i64 0) (.slice none 0 0) rfl rfl ((R8e.row _).rowFar (by omega) _) (R9f.row _)) rfl HRT.out
    by_cases hn1 : near = 0
    case pos =>
     have tn : (near != 0) = false := by simp [hn1]
     have HE := Lib.hid (show res = .ok ⟨gl, { x with pref := -1 }, nl⟩ by rw [← HR0.out]; unfold updRead; rw [HCUT.out]; simp only [Bool.false_eq_true, if_false, HPG.out, HRD.out, HPN.out]; rw [if_neg hlN.out, HM.out, if_neg (by decide), HF12.out, if_neg (fun h => h.2.1 hn1)]; (try rfl))
     clear c_R161
     have c_R164 := R16_15.cell 4
     have f_R164 := R16_15.frozen 4
     go_upto_region 28 with fail
     have U15b := U15.keep (S' := (Ex w9 (q8 :: q9 :: q10 :: g :: q14 :: ex))) (w' := w15.setCell ⟨q16, 4, none⟩ (.int .i64 (-1))) (fun b hb => ⟨hb, Below.heap_setCell w15 _ _ b (fun e => by have := hb.1; have e : b = q16 := e; omega)⟩)
     have dn15b := dn15.keep (S' := fun b => w11.heap.size ≤ b ∧ b < w13.heap.size) (w' := w15.setCell ⟨q16, 4, none⟩ (.int .i64 (-1))) rPfx_ok (fun b hb => ⟨hb, Below.heap_setCell w15 _ _ b (fun e => by have := hb.1; have e : b = q16 := e; omega)⟩)
     obtain ⟨w15b, hw15b⟩ : ∃ Wz_, w15.setCell ⟨q16, 4, none⟩ (.int .i64 (-1))= Wz_ := ⟨_, rfl⟩
     have R8_15b := R8_15.far (p := ⟨q16, 4, none⟩) (by show _ ≠ q16; omega) (.int .i64 (-1))
     have R9_15b := R9_15.far (p := ⟨q16, 4, none⟩) (by show _ ≠ q16; omega) (.int .i64 (-1))
     have R10_15b := R10_15.far (p := ⟨q16, 4, none⟩) (by show _ ≠ q16; omega) (.int .i64 (-1))
     have R14_15b := R14_15.far (p := ⟨q16, 4, none⟩) (by show _ ≠ q16; omega) (.int .i64 (-1))
     have R16_15b := R16_15.set_ 4 (.int .i64 (-1))
     simp only [List.setIfInBounds_toArray, List.set_cons_succ, List.set_cons_zero] at R16_15b
     have R18_15b := R18_15.far (p := ⟨q16, 4, none⟩) (by show _ ≠ q16; omega) (.int .i64 (-1))
     have b015b := b015.setCell (p := ⟨q16, 4, none⟩) (by show _ ≤ q16; omega) (.int .i64 (-1))
     have z_15b : w15.heap.size ≤ w15b.heap.size := by rw [← hw15b]; simp [World.setCell]
     rw [hw15b] at R8_15b R9_15b R10_15b R14_15b R16_15b R18_15b b015b U15b dn15b
     rw [hw15b]
     clear hw15b
     clear c_R1412 f_R1412 c_R180 c_R164 f_R164
     clear R8_15
     clear R9_15
     clear R10_15
     clear R14_15
     clear R16_15
     clear R18_15
     have c_R1412 := R14_15b.cell 12
     have f_R1412 := R14_15b.frozen 12
     have c_R164 := R16_15b.cell 4
     have f_R164 := R16_15b.frozen 4
     have c_R180 := R18_15b.cell 0
     clear c_R164 f_R164
     have c_R160 := R16_15b.cell 0
     have c_R161 := R16_15b.cell 1
     have c_R162 := R16_15b.cell 2
     have c_R163 := R16_15b.cell 3
     have c_R164 := R16_15b.cell 4
     have c_R165 := R16_15b.cell 5
     have c_R166 := R16_15b.cell 6
     have c_R167 := R16_15b.cell 7
     have c_R168 := R16_15b.cell 8
     have c_R169 := R16_15b.cell 9
     have c_R1610 := R16_15b.cell 10
     clear c_R1412 f_R1412
     have c_R140 := R14_15b.cell 0
     have f_R140 := R14_15b.frozen 0
     have c_R141 := R14_15b.cell 1
     have f_R141 := R14_15b.frozen 1
     have c_R142 := R14_15b.cell 2
     have f_R142 := R14_15b.frozen 2
     have c_R143 := R14_15b.cell 3
     have f_R143 := R14_15b.frozen 3
     have c_R144 := R14_15b.cell 4
     have f_R144 := R14_15b.frozen 4
     have c_R145 := R14_15b.cell 5
     have f_R145 := R14_15b.frozen 5
     have c_R146 := R14_15b.cell 6
     have f_R146 := R14_15b.frozen 6
     have c_R147 := R14_15b.cell 7
     have f_R147 := R14_15b.frozen 7
     have c_R148 := R14_15b.cell 8
     have f_R148 := R14_15b.frozen 8
     have c_R149 := R14_15b.cell 9
     have f_R149 := R14_15b.frozen 9
     have c_R1410 := R14_15b.cell 10
     have f_R1410 := R14_15b.frozen 10
     have c_R1411 := R14_15b.cell 11
     have f_R1411 := R14_15b.frozen 11
     have c_R1412 := R14_15b.cell 12
     have f_R1412 := R14_15b.frozen 12
     go_upto_region 29 with fail
     have hzW : w13.heap.size ≤ (w15b).heap.size := by omega
     have gA := att_in_grown (q := q14) (x0 := .int .i64 x.origin) (x1 := .slice A n c) (x2 := .int .u32 x.next) (x3 := .int .i64 x.med) (x4 := .int .i64 (-1)) (x5 := .bool x.atomic) (x6 := .bool x.hasAggr) (x7 := .int .u32 x.aggrAS) (x8 := .int .u32 x.aggrAddr) (x9 := .slice A1 n1 c1) (x10 := .slice A2 n2 c2) w15b
     have R14n := att_in (x0 := .int .i64 x.origin) (x1 := .slice A n c) (x2 := .int .u32 x.next) (x3 := .int .i64 x.med) (x4 := .int .i64 (-1)) (x5 := .bool x.atomic) (x6 := .bool x.hasAggr) (x7 := .int .u32 x.aggrAS) (x8 := .int .u32 x.aggrAddr) (x9 := .slice A1 n1 c1) (x10 := .slice A2 n2 c2) R14_15b
     have R8n := R8_15b.grown gA (by intro e; injection e with e; omega)
     have R9n := R9_15b.grown gA (by intro e; injection e with e; omega)
     have U16 := U15b.keep (S' := (Ex w9 (q8 :: q9 :: q10 :: g :: q14 :: ex))) (fun b hb => ⟨hb, gA.block b (Nat.lt_of_lt_of_le (Nat.lt_of_lt_of_le hb.1 hz13) hzW) (fun e => by injection e with e; exact hb.2 (by rw [e]; simp))⟩)
     have dn16 := dn15b.keep (S' := fun b => w11.heap.size ≤ b ∧ b < w13.heap.size) rPfx_ok (fun b hb => ⟨hb, gA.block b (Nat.lt_of_lt_of_le hb.2 hzW) (fun e => by injection e with e; have := hb.1; omega)⟩)
     have b16 := (b015b).grown gA (b015b).size (fun k hk => by injection hk with hk; omega)
     have z16 := gA.size
     obtain ⟨w16, hw16⟩ : ∃ X, (World.setCell (World.setCell (World.setCell (World.setCell (World.setCell (World.setCell (World.setCell (World.setCell (World.setCell (World.setCell (World.setCell w15b ⟨q14, 1, none⟩ (.int .i64 x.origin)) ⟨q14, 2, none⟩ (.slice A n c)) ⟨q14, 3, none⟩ (.int .u32 x.next)) ⟨q14, 4, none⟩ (.int .i64 x.med)) ⟨q14, 5, none⟩ (.int .i64 (-1))) ⟨q14, 6, none⟩ (.bool x.atomic)) ⟨q14, 7, none⟩ (.bool x.hasAggr)) ⟨q14, 8, none⟩ (.int .u32 x.aggrAS)) ⟨q14, 9, none⟩ (.int .u32 x.aggrAddr)) ⟨q14, 10, none⟩ (.slice A1 n1 c1)) ⟨q14, 11, none⟩ (.slice A2 n2 c2)) = X := ⟨_, rfl⟩
     rw [hw16] at R14n R8n R9n U16 dn16 b16 z16
     rw [hw16]
     clear hw16 gA
     clear c_R140 f_R140 c_R141 f_R141 c_R142 f_R142 c_R143 f_R143 c_R144 f_R144 c_R145 f_R145 c_R146 f_R146 c_R147 f_R147 c_R148 f_R148 c_R149 f_R149 c_R1410 f_R1410 c_R1411 f_R1411 c_R1412 f_R1412
     clear c_R160 c_R161 c_R162 c_R163 c_R164 c_R165 c_R166 c_R167 c_R168 c_R169 c_R1610
     clear c_R180
     have R8e := R8n
     have R9f := (R9n).rowFar (k := q8) (by omega) #[.slice Ag ng cg, .int .i64 x.origin, .slice A n c, .int .u32 x.next, .int .i64 x.med, .int .i64 (-1), .bool x.atomic, .bool x.hasAggr, .int .u32 x.aggrAS, .int .u32 x.aggrAddr, .slice A1 n1 c1, .slice A2 n2 c2, .slice An nn cn]
     have HRT := Lib.hid (RetUX.ok (ex := ex) (w := w) (q8 := q8) (q9 := q9) (S := (fun b => (Ex w9 (q8 :: q9 :: q10 :: g :: q14 :: ex)) b ∨ (w11.heap.size ≤ b ∧ b < w13.heap.size))) (u := ⟨gl, { x with pref := -1 }, nl⟩) Ag ng cg A n c A1 n1 c1 A2 n2 c2 An nn cn b16 hle8 (by omega) (U16.1.keep rPfx_ok (Kp.sub fun b hb => .inl hb)) (U16.2.1.keep rSeg_ok (Kp.sub fun b hb => .inl hb)) (U16.2.2.1.keep (Kp.sub fun b hb => .inl hb)) (U16.2.2.2.1.keep rRaw_ok (Kp.sub fun b hb => .inl hb)) (dn16.keep rPfx_ok (Kp.sub fun b hb => .inr hb)) (fun b hb => by
      rcases hb with hb | hb
      ·exact ⟨Nat.lt_of_lt_of_le hb.1 (Nat.le_trans hz13 (Nat.le_trans hzW z16)), fun e => hb.2 (by rw [e]; simp), fun e => hb.2 (by rw [e]; simp), fun hm => hb.2 (by simp [hm])⟩
      ·exact ⟨Nat.lt_of_lt_of_le hb.2 (Nat.le_trans hzW z16), hexB b hb.1⟩) ⟨HBD.out, hlg.out, hln.out⟩ HE.out)
     go_upto_region 29 with fail
     rename_i hk
     have HKK := Lib.hid hk
     clear hk
     refine wp_region_lit ?_
     refine wpList_load_row rfl 77 (.tmp 14) rfl q14 (by rfl) 77 #[.slice Ag ng cg, .int .i64 x.origin, .slice A n c, .int .u32 x.next, .int .i64 x.med, .int .i64 (-1), .bool x.atomic, .bool x.hasAggr, .int .u32 x.aggrAS, .int .u32 x.aggrAddr, .slice A1 n1 c1, .slice A2 n2 c2, .slice An nn cn] (0, 0) _ R14n Tryz.underlying77 rfl upd_info1 ?_
     refine wpList_plain rfl (fun K hK => ?_)
     go_simp
     refine hK _ _ ?_
     clear hK K
     refine wpList_store_row rfl 77 (.tmp 8) (.tmp 116) rfl q8 #[.slice Ag ng cg, .int .i64 x.origin, .slice A n c, .int .u32 x.next, .int .i64 x.med, .int .i64 (-1), .bool x.atomic, .bool x.hasAggr, .int .u32 x.aggrAS, .int .u32 x.aggrAddr, .slice A1 n1 c1, .slice A2 n2 c2, .slice An nn cn] (by rfl) (by rfl) 77 #[.slice none 0 0, .int .i64 0, .slice none 0 0, .int .u32 0, .int .i64 0, .int .i64 0, .bool false, .bool false, .int .u32 0, .int .u32 0, .slice none 0 0, .slice none 0 0, .slice none 0 0] R8e upd_info1 rfl (by kernel_rfl) ?_
     refine wpList_store_row rfl 88 (.tmp 9) (.tmp 117) rfl q9 #[.int .i64 0, .int .i64 0, .slice none 0 0] (by rfl) (by rfl) 88 #[.int .i64 0, .int .i64 0, .slice none 0 0] R9f fltA_info rfl (by kernel_rfl) ?_
     go_simp
     refine HKK.out _ _ (wp_ret ?_)
     exact bodyPost_ret (upd_ret rfl _ _ q8 q9 _ _ _ _ _ _ _ _ _ _ _ _ _ (.int .i64 0) (.int .i64 0) (.slice none 0 0) rfl rfl ((R8e.row _).rowFar (by omega) _) (R9f.row _)) rfl HRT.out
    have tn : (near != 0) = true := by simp [hn1]
    cases f2
    case false =>
     have HE := Lib.hid (show res = .error (11, []) by rw [← HR0.out]; unfold updRead; rw [HCUT.out]; simp only [Bool.false_eq_true, if_false, HPG.out, HRD.out, HPN.out]; rw [if_neg hlN.out, HM.out, if_neg (by decide), HF12.out, if_pos ⟨by trivial, hn1, fun h => by injection h with _ h; cases h⟩])
     clear U15 dn15
     try clear HR0
     try clear HCUT
     try clear HLS
     try clear HU1
     try clear HT2
     try clear HU3
     try clear HT4
     try clear HE5
     try clear hn3
     try clear hn5
     try clear HL7
     try clear HPG
     try clear HAR
     try clear HRD
     try clear HKS
     try clear HNK
     try clear HBD
     try clear HLF
     try clear HTK
     try clear hn11
     try clear HL12
     try clear HPN
     try clear hlg
     try clear hln
     try clear hnn
     try clear HMI
     try clear HM
     try clear HFI
     try clear HF12
     try clear hlN
     try clear U9
     try clear U10
     try clear U11
     try clear U12
     try clear U13
     try clear U14
     try clear U15
     try clear dn13
     try clear dn14
     try clear dn15
     try clear o3
     try clear o35
     try clear o36
     try clear s5
     try clear s57
     try clear s58
     try clear r6
     try clear r7
     try clear r8
     try clear r9
     try clear r10
     try clear r11
     try clear z5
     try clear z7
     try clear z9
     try clear z11
     try clear z12
     try clear z13
     try clear z14
     try clear z15
     try clear z_8
     try clear z_13
     try clear b6'
     try clear hBd14
     try clear hlt9
     try clear h1114
     try clear hz13
     try clear h9le
     try clear hexB
     try clear h916
     try clear h16l
     try clear HT
     try clear hbl
     try clear hn0
     try clear og9
     try clear og8
     try clear hog8
     try clear hlN
     go_upto_region 25 with fail
     have R8d := R8_15.drew
     have R9d := R9_15.drew
     have R10d := R10_15.drew
     have bdd := (b015).drew
     have hbfd := BF.keep (S' := (fun _ => False)) ((⟨rfl, Rw.none_⟩ : BF w15 (fun _ => False) none 0 [])) (fun b hb => ⟨hb, rfl⟩ : Kp w15 (w15).drew _ _)
     obtain ⟨wd, hwd⟩ : ∃ x, (w15).drew = x := ⟨_, rfl⟩
     have hzd : wd.heap.size = (w15).heap.size := by rw [← hwd]; rfl
     rw [hwd] at R8d R9d R10d bdd hbfd
     have HWD := Lib.hid hwd
     clear hwd
     rename_i hk
     have HKK := Lib.hid hk
     clear hk
     refine wp_region_held_drew (S := (fun w' => Blk w' q10 77 #[.slice none 0 0, .int .i64 0, .slice none 0 0, .int .u32 0, .int .i64 0, .int .i64 0, .bool false, .bool false, .int .u32 0, .int .u32 0, .slice none 0 0, .slice none 0 0, .slice none 0 0])) (by kernel_rfl) ?_ (fun hHeld => ?_)
     ·rw [HWD.out]; exact R10d
     rw [HWD.out]
     rw [HWD.out] at hHeld
     refine wpAnyH_take (i := 0) (v := ?m8_v0) rfl (by kernel_rfl) (by kernel_rfl) (by kernel_rfl) (by intro _ _ _ h; exact h) (Or.inl ⟨by rfl, ?m8_hy0⟩) (by assumption) ?m8_rest0
     case m8_hy0 => (intro w hSw; (try dsimp only at hSw); have z0 := Blk.cell hSw 0; have z1 := Blk.cell hSw 1; have z2 := Blk.cell hSw 2; have z3 := Blk.cell hSw 3; have z4 := Blk.cell hSw 4; have z5 := Blk.cell hSw 5; have z6 := Blk.cell hSw 6; have z7 := Blk.cell hSw 7; have z8 := Blk.cell hSw 8; have z9 := Blk.cell hSw 9; have z10 := Blk.cell hSw 10; have z11 := Blk.cell hSw 11; have z12 := Blk.cell hSw 12; clear hSw; go_simp; try with_reducible rfl)
     try simp only [Act.put, q1, q2, q3, q4, q5, q6]
     refine tkr 1 fun K hK => ?_
     go_simp
     go_wp2_with (go_at_call 90; refine (updFault 11 none 0 0 _).mono ?_; rintro _ we ⟨rfl, be⟩; have R8e := R8d.below be R8d.lt; have R9e := R9d.below be R9d.lt; have R10e := R10d.below be R10d.lt)
     refine hK.out _ _ ?_ (fun hHeld => ?_)
     ·try dsimp only
      exact R10e
     clear hK K
     have R9f := R9e.rowFar (k := q8) (by omega) #[.slice none 0 0, .int .i64 0, .slice none 0 0, .int .u32 0, .int .i64 0, .int .i64 0, .bool false, .bool false, .int .u32 0, .int .u32 0, .slice none 0 0, .slice none 0 0, .slice none 0 0]
     have HF := Lib.hid (R10e.rowFar (k := q8) (by omega) #[.slice none 0 0, .int .i64 0, .slice none 0 0, .int .u32 0, .int .i64 0, .int .i64 0, .bool false, .bool false, .int .u32 0, .int .u32 0, .slice none 0 0, .slice none 0 0, .slice none 0 0])
     have HH := Lib.hid ((R10e.rowFar (k := q8) (by omega) #[.slice none 0 0, .int .i64 0, .slice none 0 0, .int .u32 0, .int .i64 0, .int .i64 0, .bool false, .bool false, .int .u32 0, .int .u32 0, .slice none 0 0, .slice none 0 0, .slice none 0 0]).rowFar (k := q9) (by omega) #[.int .i64 3, .int .i64 11, .slice none 0 0])
     refine tkr 2 fun K hK => ?_
     refine step_row rfl 77 (.tmp 8) (.tmp 109) rfl q8 #[.slice none 0 0, .int .i64 0, .slice none 0 0, .int .u32 0, .int .i64 0, .int .i64 0, .bool false, .bool false, .int .u32 0, .int .u32 0, .slice none 0 0, .slice none 0 0, .slice none 0 0] (by rfl) (by rfl) 77 #[.slice none 0 0, .int .i64 0, .slice none 0 0, .int .u32 0, .int .i64 0, .int .i64 0, .bool false, .bool false, .int .u32 0, .int .u32 0, .slice none 0 0, .slice none 0 0, .slice none 0 0] R8e upd_info1 rfl (by kernel_rfl) ?_
     refine hK.out _ _ ?_ (fun hHeld => ?_)
     ·try dsimp only
      exact HF.out
     clear hK K
     refine tkr 3 fun K hK => ?_
     refine step_row rfl 88 (.tmp 9) (.tmp 110) rfl q9 #[.int .i64 3, .int .i64 11, .slice none 0 0] (by rfl) (by rfl) 88 #[.int .i64 0, .int .i64 0, .slice none 0 0] R9f fltA_info rfl (by kernel_rfl) ?_
     refine hK.out _ _ ?_ (fun hHeld => ?_)
     ·try dsimp only
      exact HH.out
     clear hK K
     refine wpAnyH_done (by kernel_rfl) ?_ _
     have bE := btr bdd be bdd.size
     have hbE := hbfd.keep (S' := (fun _ => False)) (fun b hb => ⟨hb, be.block b (by rw [hzd]; exact ((show (b < (w15).heap.size ∧ b ≠ q8 ∧ b ≠ q9 ∧ b ∉ ex) from hb.elim)).1)⟩)
     have hzE : (w15).heap.size ≤ we.heap.size := by rw [← hzd]; exact be.size
     have HRT := Lib.hid (RetUX.err (ex := ex) (w := w) (q8 := q8) (q9 := q9) (S := (fun _ => False)) bE hle8 (by omega) hbE (fun b hb => by have h := (show (b < (w15).heap.size ∧ b ≠ q8 ∧ b ≠ q9 ∧ b ∉ ex) from hb.elim); exact ⟨Nat.lt_of_lt_of_le h.1 hzE, h.2⟩) (Nat.le_refl _) HE.out)
     clear hbE hbfd bE
     refine HKK.out _ _ (wp_ret ?_)
     exact bodyPost_ret (upd_ret rfl _ _ q8 q9 _ _ _ _ _ _ _ _ _ _ _ _ _ (.int .i64 3) (.int .i64 11) (.slice none 0 0) rfl rfl ((R8e.row _).rowFar (by omega) _) (R9f.row _)) rfl HRT.out
    by_cases hn2 : f1 = near
    case neg =>
     have te : (f1 != near) = true := by simpa using hn2
     have HE := Lib.hid (show res = .error (11, []) by rw [← HR0.out]; unfold updRead; rw [HCUT.out]; simp only [Bool.false_eq_true, if_false, HPG.out, HRD.out, HPN.out]; rw [if_neg hlN.out, HM.out, if_neg (by decide), HF12.out, if_pos ⟨by trivial, hn1, fun h => hn2 (by injection h)⟩])
     clear U15 dn15
     try clear HR0
     try clear HCUT
     try clear HLS
     try clear HU1
     try clear HT2
     try clear HU3
     try clear HT4
     try clear HE5
     try clear hn3
     try clear hn5
     try clear HL7
     try clear HPG
     try clear HAR
     try clear HRD
     try clear HKS
     try clear HNK
     try clear HBD
     try clear HLF
     try clear HTK
     try clear hn11
     try clear HL12
     try clear HPN
     try clear hlg
     try clear hln
     try clear hnn
     try clear HMI
     try clear HM
     try clear HFI
     try clear HF12
     try clear hlN
     try clear U9
     try clear U10
     try clear U11
     try clear U12
     try clear U13
     try clear U14
     try clear U15
     try clear dn13
     try clear dn14
     try clear dn15
     try clear o3
     try clear o35
     try clear o36
     try clear s5
     try clear s57
     try clear s58
     try clear r6
     try clear r7
     try clear r8
     try clear r9
     try clear r10
     try clear r11
     try clear z5
     try clear z7
     try clear z9
     try clear z11
     try clear z12
     try clear z13
     try clear z14
     try clear z15
     try clear z_8
     try clear z_13
     try clear b6'
     try clear hBd14
     try clear hlt9
     try clear h1114
     try clear hz13
     try clear h9le
     try clear hexB
     try clear h916
     try clear h16l
     try clear HT
     try clear hbl
     try clear hn0
     try clear og9
     try clear og8
     try clear hog8
     try clear hlN
     go_upto_region 25 with fail
     have R8d := R8_15.drew
     have R9d := R9_15.drew
     have R10d := R10_15.drew
     have bdd := (b015).drew
     have hbfd := BF.keep (S' := (fun _ => False)) ((⟨rfl, Rw.none_⟩ : BF w15 (fun _ => False) none 0 [])) (fun b hb => ⟨hb, rfl⟩ : Kp w15 (w15).drew _ _)
     obtain ⟨wd, hwd⟩ : ∃ x, (w15).drew = x := ⟨_, rfl⟩
     have hzd : wd.heap.size = (w15).heap.size := by rw [← hwd]; rfl
     rw [hwd] at R8d R9d R10d bdd hbfd
     have HWD := Lib.hid hwd
     clear hwd
     rename_i hk
     have HKK := Lib.hid hk
     clear hk
     refine wp_region_held_drew (S := (fun w' => Blk w' q10 77 #[.slice none 0 0, .int .i64 0, .slice none 0 0, .int .u32 0, .int .i64 0, .int .i64 0, .bool false, .bool false, .int .u32 0, .int .u32 0, .slice none 0 0, .slice none 0 0, .slice none 0 0])) (by kernel_rfl) ?_ (fun hHeld => ?_)
     ·rw [HWD.out]; exact R10d
     rw [HWD.out]
     rw [HWD.out] at hHeld
     refine wpAnyH_take (i := 0) (v := ?m9_v0) rfl (by kernel_rfl) (by kernel_rfl) (by kernel_rfl) (by intro _ _ _ h; exact h) (Or.inl ⟨by rfl, ?m9_hy0⟩) (by assumption) ?m9_rest0
     case m9_hy0 => (intro w hSw; (try dsimp only at hSw); have z0 := Blk.cell hSw 0; have z1 := Blk.cell hSw 1; have z2 := Blk.cell hSw 2; have z3 := Blk.cell hSw 3; have z4 := Blk.cell hSw 4; have z5 := Blk.cell hSw 5; have z6 := Blk.cell hSw 6; have z7 := Blk.cell hSw 7; have z8 := Blk.cell hSw 8; have z9 := Blk.cell hSw 9; have z10 := Blk.cell hSw 10; have z11 := Blk.cell hSw 11; have z12 := Blk.cell hSw 12; clear hSw; go_simp; try with_reducible rfl)
     try simp only [Act.put, q1, q2, q3, q4, q5, q6]
     refine tkr 1 fun K hK => ?_
     go_simp
     go_wp2_with (go_at_call 90; refine (updFault 11 none 0 0 _).mono ?_; rintro _ we ⟨rfl, be⟩; have R8e := R8d.below be R8d.lt; have R9e := R9d.below be R9d.lt; have R10e := R10d.below be R10d.lt)
     refine hK.out _ _ ?_ (fun hHeld => ?_)
     ·try dsimp only
      exact R10e
     clear hK K
     have R9f := R9e.rowFar (k := q8) (by omega) #[.slice none 0 0, .int .i64 0, .slice none 0 0, .int .u32 0, .int .i64 0, .int .i64 0, .bool false, .bool false, .int .u32 0, .int .u32 0, .slice none 0 0, .slice none 0 0, .slice none 0 0]
     have HF := Lib.hid (R10e.rowFar (k := q8) (by omega) #[.slice none 0 0, .int .i64 0, .slice none 0 0, .int .u32 0, .int .i64 0, .int .i64 0, .bool false, .bool false, .int .u32 0, .int .u32 0, .slice none 0 0, .slice none 0 0, .slice none 0 0])
     have HH := Lib.hid ((R10e.rowFar (k := q8) (by omega) #[.slice none 0 0, .int .i64 0, .slice none 0 0, .int .u32 0, .int .i64 0, .int .i64 0, .bool false, .bool false, .int .u32 0, .int .u32 0, .slice none 0 0, .slice none 0 0, .slice none 0 0]).rowFar (k := q9) (by omega) #[.int .i64 3, .int .i64 11, .slice none 0 0])
     refine tkr 2 fun K hK => ?_
     refine step_row rfl 77 (.tmp 8) (.tmp 109) rfl q8 #[.slice none 0 0, .int .i64 0, .slice none 0 0, .int .u32 0, .int .i64 0, .int .i64 0, .bool false, .bool false, .int .u32 0, .int .u32 0, .slice none 0 0, .slice none 0 0, .slice none 0 0] (by rfl) (by rfl) 77 #[.slice none 0 0, .int .i64 0, .slice none 0 0, .int .u32 0, .int .i64 0, .int .i64 0, .bool false, .bool false, .int .u32 0, .int .u32 0, .slice none 0 0, .slice none 0 0, .slice none 0 0] R8e upd_info1 rfl (by kernel_rfl) ?_
     refine hK.out _ _ ?_ (fun hHeld => ?_)
     ·try dsimp only
      exact HF.out
     clear hK K
     refine tkr 3 fun K hK => ?_
     refine step_row rfl 88 (.tmp 9) (.tmp 110) rfl q9 #[.int .i64 3, .int .i64 11, .slice none 0 0] (by rfl) (by rfl) 88 #[.int .i64 0, .int .i64 0, .slice none 0 0] R9f fltA_info rfl (by kernel_rfl) ?_
     refine hK.out _ _ ?_ (fun hHeld => ?_)
     ·try dsimp only
      exact HH.out
     clear hK K
     refine wpAnyH_done (by kernel_rfl) ?_ _
     have bE := btr bdd be bdd.size
     have hbE := hbfd.keep (S' := (fun _ => False)) (fun b hb => ⟨hb, be.block b (by rw [hzd]; exact ((show (b < (w15).heap.size ∧ b ≠ q8 ∧ b ≠ q9 ∧ b ∉ ex) from hb.elim)).1)⟩)
     have hzE : (w15).heap.size ≤ we.heap.size := by rw [← hzd]; exact be.size
     have HRT := Lib.hid (RetUX.err (ex := ex) (w := w) (q8 := q8) (q9 := q9) (S := (fun _ => False)) bE hle8 (by omega) hbE (fun b hb => by have h := (show (b < (w15).heap.size ∧ b ≠ q8 ∧ b ≠ q9 ∧ b ∉ ex) from hb.elim); exact ⟨Nat.lt_of_lt_of_le h.1 hzE, h.2⟩) (Nat.le_refl _) HE.out)
     clear hbE hbfd bE
     refine HKK.out _ _ (wp_ret ?_)
     exact bodyPost_ret (upd_ret rfl _ _ q8 q9 _ _ _ _ _ _ _ _ _ _ _ _ _ (.int .i64 3) (.int .i64 11) (.slice none 0 0) rfl rfl ((R8e.row _).rowFar (by omega) _) (R9f.row _)) rfl HRT.out
    have te : (f1 != near) = false := by simpa using hn2
    have HE := Lib.hid (show res = .ok ⟨gl, { x with pref := -1 }, nl⟩ by rw [← HR0.out]; unfold updRead; rw [HCUT.out]; simp only [Bool.false_eq_true, if_false, HPG.out, HRD.out, HPN.out]; rw [if_neg hlN.out, HM.out, if_neg (by decide), HF12.out, if_neg (fun h => h.2.2 (by rw [hn2]))]; (try rfl))
    clear c_R161
    have c_R164 := R16_15.cell 4
    have f_R164 := R16_15.frozen 4
    go_upto_region 28 with fail
    have U15b := U15.keep (S' := (Ex w9 (q8 :: q9 :: q10 :: g :: q14 :: ex))) (w' := w15.setCell ⟨q16, 4, none⟩ (.int .i64 (-1))) (fun b hb => ⟨hb, Below.heap_setCell w15 _ _ b (fun e => by have := hb.1; have e : b = q16 := e; omega)⟩)
    have dn15b := dn15.keep (S' := fun b => w11.heap.size ≤ b ∧ b < w13.heap.size) (w' := w15.setCell ⟨q16, 4, none⟩ (.int .i64 (-1))) rPfx_ok (fun b hb => ⟨hb, Below.heap_setCell w15 _ _ b (fun e => by have := hb.1; have e : b = q16 := e; omega)⟩)
    obtain ⟨w15b, hw15b⟩ : ∃ Wz_, w15.setCell ⟨q16, 4, none⟩ (.int .i64 (-1))= Wz_ := ⟨_, rfl⟩
    have R8_15b := R8_15.far (p := ⟨q16, 4, none⟩) (by show _ ≠ q16; omega) (.int .i64 (-1))
    have R9_15b := R9_15.far (p := ⟨q16, 4, none⟩) (by show _ ≠ q16; omega) (.int .i64 (-1))
    have R10_15b := R10_15.far (p := ⟨q16, 4, none⟩) (by show _ ≠ q16; omega) (.int .i64 (-1))
    have R14_15b := R14_15.far (p := ⟨q16, 4, none⟩) (by show _ ≠ q16; omega) (.int .i64 (-1))
    have R16_15b := R16_15.set_ 4 (.int .i64 (-1))
    simp only [List.setIfInBounds_toArray, List.set_cons_succ, List.set_cons_zero] at R16_15b
    have R18_15b := R18_15.far (p := ⟨q16, 4, none⟩) (by show _ ≠ q16; omega) (.int .i64 (-1))
    have b015b := b015.setCell (p := ⟨q16, 4, none⟩) (by show _ ≤ q16; omega) (.int .i64 (-1))
    have z_15b : w15.heap.size ≤ w15b.heap.size := by rw [← hw15b]; simp [World.setCell]
    rw [hw15b] at R8_15b R9_15b R10_15b R14_15b R16_15b R18_15b b015b U15b dn15b
    rw [hw15b]
    clear hw15b
    clear c_R1412 f_R1412 c_R180 c_R164 f_R164
    clear R8_15
    clear R9_15
    clear R10_15
    clear R14_15
    clear R16_15
    clear R18_15
    have c_R1412 := R14_15b.cell 12
    have f_R1412 := R14_15b.frozen 12
    have c_R164 := R16_15b.cell 4
    have f_R164 := R16_15b.frozen 4
    have c_R180 := R18_15b.cell 0
    clear c_R164 f_R164
    have c_R160 := R16_15b.cell 0
    have c_R161 := R16_15b.cell 1
    have c_R162 := R16_15b.cell 2
    have c_R163 := R16_15b.cell 3
    have c_R164 := R16_15b.cell 4
    have c_R165 := R16_15b.cell 5
    have c_R166 := R16_15b.cell 6
    have c_R167 := R16_15b.cell 7
    have c_R168 := R16_15b.cell 8
    have c_R169 := R16_15b.cell 9
    have c_R1610 := R16_15b.cell 10
    clear c_R1412 f_R1412
    have c_R140 := R14_15b.cell 0
    have f_R140 := R14_15b.frozen 0
    have c_R141 := R14_15b.cell 1
    have f_R141 := R14_15b.frozen 1
    have c_R142 := R14_15b.cell 2
    have f_R142 := R14_15b.frozen 2
    have c_R143 := R14_15b.cell 3
    have f_R143 := R14_15b.frozen 3
    have c_R144 := R14_15b.cell 4
    have f_R144 := R14_15b.frozen 4
    have c_R145 := R14_15b.cell 5
    have f_R145 := R14_15b.frozen 5
    have c_R146 := R14_15b.cell 6
    have f_R146 := R14_15b.frozen 6
    have c_R147 := R14_15b.cell 7
    have f_R147 := R14_15b.frozen 7
    have c_R148 := R14_15b.cell 8
    have f_R148 := R14_15b.frozen 8
    have c_R149 := R14_15b.cell 9
    have f_R149 := R14_15b.frozen 9
    have c_R1410 := R14_15b.cell 10
    have f_R1410 := R14_15b.frozen 10
    have c_R1411 := R14_15b.cell 11
    have f_R1411 := R14_15b.frozen 11
    have c_R1412 := R14_15b.cell 12
    have f_R1412 := R14_15b.frozen 12
    go_upto_region 29 with fail
    have hzW : w13.heap.size ≤ (w15b).heap.size := by omega
    have gA := att_in_grown (q := q14) (x0 := .int .i64 x.origin) (x1 := .slice A n c) (x2 := .int .u32 x.next) (x3 := .int .i64 x.med) (x4 := .int .i64 (-1)) (x5 := .bool x.atomic) (x6 := .bool x.hasAggr) (x7 := .int .u32 x.aggrAS) (x8 := .int .u32 x.aggrAddr) (x9 := .slice A1 n1 c1) (x10 := .slice A2 n2 c2) w15b
    have R14n := att_in (x0 := .int .i64 x.origin) (x1 := .slice A n c) (x2 := .int .u32 x.next) (x3 := .int .i64 x.med) (x4 := .int .i64 (-1)) (x5 := .bool x.atomic) (x6 := .bool x.hasAggr) (x7 := .int .u32 x.aggrAS) (x8 := .int .u32 x.aggrAddr) (x9 := .slice A1 n1 c1) (x10 := .slice A2 n2 c2) R14_15b
    have R8n := R8_15b.grown gA (by intro e; injection e with e; omega)
    have R9n := R9_15b.grown gA (by intro e; injection e with e; omega)
    have U16 := U15b.keep (S' := (Ex w9 (q8 :: q9 :: q10 :: g :: q14 :: ex))) (fun b hb => ⟨hb, gA.block b (Nat.lt_of_lt_of_le (Nat.lt_of_lt_of_le hb.1 hz13) hzW) (fun e => by injection e with e; exact hb.2 (by rw [e]; simp))⟩)
    have dn16 := dn15b.keep (S' := fun b => w11.heap.size ≤ b ∧ b < w13.heap.size) rPfx_ok (fun b hb => ⟨hb, gA.block b (Nat.lt_of_lt_of_le hb.2 hzW) (fun e => by injection e with e; have := hb.1; omega)⟩)
    have b16 := (b015b).grown gA (b015b).size (fun k hk => by injection hk with hk; omega)
    have z16 := gA.size
    obtain ⟨w16, hw16⟩ : ∃ X, (World.setCell (World.setCell (World.setCell (World.setCell (World.setCell (World.setCell (World.setCell (World.setCell (World.setCell (World.setCell (World.setCell w15b ⟨q14, 1, none⟩ (.int .i64 x.origin)) ⟨q14, 2, none⟩ (.slice A n c)) ⟨q14, 3, none⟩ (.int .u32 x.next)) ⟨q14, 4, none⟩ (.int .i64 x.med)) ⟨q14, 5, none⟩ (.int .i64 (-1))) ⟨q14, 6, none⟩ (.bool x.atomic)) ⟨q14, 7, none⟩ (.bool x.hasAggr)) ⟨q14, 8, none⟩ (.int .u32 x.aggrAS)) ⟨q14, 9, none⟩ (.int .u32 x.aggrAddr)) ⟨q14, 10, none⟩ (.slice A1 n1 c1)) ⟨q14, 11, none⟩ (.slice A2 n2 c2)) = X := ⟨_, rfl⟩
    rw [hw16] at R14n R8n R9n U16 dn16 b16 z16
    rw [hw16]
    clear hw16 gA
    clear c_R140 f_R140 c_R141 f_R141 c_R142 f_R142 c_R143 f_R143 c_R144 f_R144 c_R145 f_R145 c_R146 f_R146 c_R147 f_R147 c_R148 f_R148 c_R149 f_R149 c_R1410 f_R1410 c_R1411 f_R1411 c_R1412 f_R1412
    clear c_R160 c_R161 c_R162 c_R163 c_R164 c_R165 c_R166 c_R167 c_R168 c_R169 c_R1610
    clear c_R180
    have R8e := R8n
    have R9f := (R9n).rowFar (k := q8) (by omega) #[.slice Ag ng cg, .int .i64 x.origin, .slice A n c, .int .u32 x.next, .int .i64 x.med, .int .i64 (-1), .bool x.atomic, .bool x.hasAggr, .int .u32 x.aggrAS, .int .u32 x.aggrAddr, .slice A1 n1 c1, .slice A2 n2 c2, .slice An nn cn]
    have HRT := Lib.hid (RetUX.ok (ex := ex) (w := w) (q8 := q8) (q9 := q9) (S := (fun b => (Ex w9 (q8 :: q9 :: q10 :: g :: q14 :: ex)) b ∨ (w11.heap.size ≤ b ∧ b < w13.heap.size))) (u := ⟨gl, { x with pref := -1 }, nl⟩) Ag ng cg A n c A1 n1 c1 A2 n2 c2 An nn cn b16 hle8 (by omega) (U16.1.keep rPfx_ok (Kp.sub fun b hb => .inl hb)) (U16.2.1.keep rSeg_ok (Kp.sub fun b hb => .inl hb)) (U16.2.2.1.keep (Kp.sub fun b hb => .inl hb)) (U16.2.2.2.1.keep rRaw_ok (Kp.sub fun b hb => .inl hb)) (dn16.keep rPfx_ok (Kp.sub fun b hb => .inr hb)) (fun b hb => by
     rcases hb with hb | hb
     ·exact ⟨Nat.lt_of_lt_of_le hb.1 (Nat.le_trans hz13 (Nat.le_trans hzW z16)), fun e => hb.2 (by rw [e]; simp), fun e => hb.2 (by rw [e]; simp), fun hm => hb.2 (by simp [hm])⟩
     ·exact ⟨Nat.lt_of_lt_of_le hb.2 (Nat.le_trans hzW z16), hexB b hb.1⟩) ⟨HBD.out, hlg.out, hln.out⟩ HE.out)
    go_upto_region 29 with fail
    rename_i hk
    have HKK := Lib.hid hk
    clear hk
    refine wp_region_lit ?_
    refine wpList_load_row rfl 77 (.tmp 14) rfl q14 (by rfl) 77 #[.slice Ag ng cg, .int .i64 x.origin, .slice A n c, .int .u32 x.next, .int .i64 x.med, .int .i64 (-1), .bool x.atomic, .bool x.hasAggr, .int .u32 x.aggrAS, .int .u32 x.aggrAddr, .slice A1 n1 c1, .slice A2 n2 c2, .slice An nn cn] (0, 0) _ R14n Tryz.underlying77 rfl upd_info1 ?_
    refine wpList_plain rfl (fun K hK => ?_)
    go_simp
    refine hK _ _ ?_
    clear hK K
    refine wpList_store_row rfl 77 (.tmp 8) (.tmp 116) rfl q8 #[.slice Ag ng cg, .int .i64 x.origin, .slice A n c, .int .u32 x.next, .int .i64 x.med, .int .i64 (-1), .bool x.atomic, .bool x.hasAggr, .int .u32 x.aggrAS, .int .u32 x.aggrAddr, .slice A1 n1 c1, .slice A2 n2 c2, .slice An nn cn] (by rfl) (by rfl) 77 #[.slice none 0 0, .int .i64 0, .slice none 0 0, .int .u32 0, .int .i64 0, .int .i64 0, .bool false, .bool false, .int .u32 0, .int .u32 0, .slice none 0 0, .slice none 0 0, .slice none 0 0] R8e upd_info1 rfl (by kernel_rfl) ?_
    refine wpList_store_row rfl 88 (.tmp 9) (.tmp 117) rfl q9 #[.int .i64 0, .int .i64 0, .slice none 0 0] (by rfl) (by rfl) 88 #[.int .i64 0, .int .i64 0, .slice none 0 0] R9f fltA_info rfl (by kernel_rfl) ?_
    go_simp
    refine HKK.out _ _ (wp_ret ?_)
    exact bodyPost_ret (upd_ret rfl _ _ q8 q9 _ _ _ _ _ _ _ _ _ _ _ _ _ (.int .i64 0) (.int .i64 0) (.slice none 0 0) rfl rfl ((R8e.row _).rowFar (by omega) _) (R9f.row _)) rfl HRT.out
set_option maxHeartbeats 1000000 in
set_option maxRecDepth 100000 in
theorem equalU (A A' : Option Addr) (n n' c c' : Nat) (l l' : List Int) (w : World) (B B' : Nat) (h : NS .u32 w B A n l) (h' : NS .u32 w B' A' n' l') (hbd : n ≤ 35184372088832) :
  Calls Tryz.prog 185 #[.slice A n c, .slice A' n' c'] w fun en w' => en = .returned (.bool (l == l')) ∧ ∃ q, w' = w.drewN q := by
 have hn : n = l.length := h.1
 have hn' : n' = l'.length := h'.1
 by_cases hlen : n = n'
 ·have HN := Lib.hid hn
  have HN' := Lib.hid hn'
  subst hlen
  clear hn hn'
  go_enter Tryz.func185, Tryz.ntmps185
  go_wp2_with fail
  go_loopw [13] (fun i wr => ∃ j q : Nat, j ≤ n ∧ i = .int .i64 j ∧ wr = w.drewN q ∧ Hid (l.take j = l'.take j)) (fun i _ => n - (intOf i).toNat)
  case atStart => exact ⟨0, 0, by omega, rfl, rfl, Lib.hid rfl⟩
  case round =>
   obtain ⟨j, q, hj, rfl, rfl, ht⟩ := hrel
   by_cases hlt : j < n
   ·obtain ⟨b, off, rfl, hbw, hcw⟩ := h.form hlt
    obtain ⟨b', off', rfl, hbw', hcw'⟩ := h'.form hlt
    have hlti : (j : Int) < n := by omega
    have hd : decide ((j : Int) < n) = true := decide_eq_true hlti
    obtain ⟨x, hx⟩ : ∃ x, l[j]?.getD 0 = x := ⟨_, rfl⟩
    obtain ⟨y, hy⟩ : ∃ y, l'[j]?.getD 0 = y := ⟨_, rfl⟩
    rw [hx] at hcw
    rw [hy] at hcw'
    have HXX := Lib.hid hx
    have HYY := Lib.hid hy
    clear hx hy
    by_cases e : x = y
    ·subst e
     go_wp2_with fail
     go_quiet (fail)
     go_wp2_with fail
     go_roundw
     case rel =>
      refine ⟨j + 1, q + nq, by omega, by go_num, rfl, Lib.hid ?_⟩
      exact take_succ_eq ht.out (by have := HN.out; omega) (by have := HN'.out; omega) (HXX.out.trans HYY.out.symm)
     case measure => simp [intOf]; omega
    ·have ht2 : (x != y) = true := by simpa using e
     go_wp2_with fail
     go_quiet (fail)
     go_wp2_with fail
     go_ret
     refine ⟨ret_b ?_, q + nq, World.drewN_drewN _ _ _⟩
     refine (beq_eq_false_iff_ne.2 fun hll => e ?_).symm
     rw [← HXX.out, ← HYY.out, hll]
   ·have hj' : j = n := by omega
    go_wp2_with fail
    go_ret
    refine ⟨ret_b ?_, q, rfl⟩
    subst hj'
    have e := ht.out
    rw [List.take_of_length_le (by have := HN.out; omega), List.take_of_length_le (by have := HN'.out; omega)] at e
    rw [e, beq_self_eq_true]
 ·have ht : ((n : Int) != n') = true := by simpa using (by omega : ¬ (n : Int) = n')
  have hf : (l == l') = false := beq_eq_false_iff_ne.2 fun e => hlen (by rw [hn, hn', e])
  go_enter Tryz.func185, Tryz.ntmps185
  go_wp2_with fail
  go_ret
  exact ⟨ret_b hf.symm, 0, rfl⟩
set_option maxHeartbeats 2000000 in
set_option maxRecDepth 100000 in
theorem sameSeg (k k' : Int) (A A' : Option Addr) (n n' c c' : Nat) (zs zs' : List Int) (w : World) (h : NS .u32 w w.heap.size A n zs) (h' : NS .u32 w w.heap.size A' n' zs') (hbd : n ≤ 35184372088832) :
  Calls Tryz.prog 222 #[.agg #[.int .i64 k, .slice A n c], .agg #[.int .i64 k', .slice A' n' c']] w fun e w' => e = .returned (.bool (k == k' && zs == zs')) ∧ Below w.heap.size w w' := by
 obtain ⟨W, hW, hX, hY, b0⟩ := boxes2 w #[.int .i64 k, .slice A n c] #[.int .i64 k', .slice A' n' c'] 229 229
 have x0 := hX.cell 0
 have x1 := hX.cell 1
 have y0 := hY.cell 0
 have y1 := hY.cell 1
 have ns := h.below b0
 have ns' := h'.below b0
 by_cases hk : k = k'
 ·have t1 : (k == k') = true := by simpa using hk
  have HT := Lib.hid t1
  clear hk
  go_enter Tryz.func222, Tryz.ntmps222
  go_upto_region 1 with fail
  try rw [hW]
  clear hW
  go_wp2_with fail
  refine (equalU A A' n n' c c' zs zs' _ _ _ ns ns' hbd).mono ?_
  rintro _ _ ⟨rfl, q, rfl⟩
  go_wp2_with fail
  go_ret
  exact ⟨by rw [HT.out]; rfl, below_drewN b0 q⟩
 ·have t1 : (k == k') = false := by simpa using hk
  have HT := Lib.hid t1
  clear hk
  go_enter Tryz.func222, Tryz.ntmps222
  go_upto_region 1 with fail
  try rw [hW]
  clear hW
  go_wp2_with fail
  go_ret
  exact ⟨by rw [HT.out]; rfl, b0⟩
theorem list_eq {α : Type} {l l' : List α} {n : Nat} (h : n = l.length) (h' : n = l'.length) (ha : ∀ i, i < n → l[i]? = l'[i]?) : l = l' :=
 List.ext_getElem? fun t => by
  rcases Nat.lt_or_ge t n with h1 | h1
  ·exact ha t h1
  ·rw [List.getElem?_eq_none (by omega), List.getElem?_eq_none (by omega)]
theorem seg_ne {x y : Seg} {l l' : List Seg} {j : Nat} (hx : l[j]? = some x) (hy : l'[j]? = some y) (h : (x.1 == y.1 && x.2 == y.2) = false) : (l == l') = false := by
 refine beq_eq_false_iff_ne.2 fun e => ?_
 rw [e, hy] at hx
 injection hx with hx
 subst hx
 simp at h
theorem seg_step {x y : Seg} {l l' : List Seg} {j : Nat} (ha : ∀ i, i < j → l[i]? = l'[i]?) (hx : l[j]? = some x) (hy : l'[j]? = some y) (h : (x.1 == y.1 && x.2 == y.2) = true) : ∀ i, i < j + 1 → l[i]? = l'[i]? := by
 intro i hi
 rcases Nat.lt_or_ge i j with h1 | h1
 ·exact ha i h1
 ·rw [show i = j by omega, hx, hy]
  simp only [Bool.and_eq_true, beq_iff_eq] at h
  congr 1
  exact Prod.ext h.1 h.2
set_option maxHeartbeats 4000000 in
set_option maxRecDepth 100000 in
theorem equalFuncS (A A' : Option Addr) (n n' c c' : Nat) (l l' : List Seg) (w : World) (hd : DL rSeg 2 w (Lo w) A n l) (hd' : DL rSeg 2 w (Lo w) A' n' l') (hn : n ≤ 100000) (hs : Hid (sumN l ≤ big32)) :
  Calls Tryz.prog 221 #[.slice A n c, .slice A' n' c', .func (.func 222) #[] #[]] w fun e w' => e = .returned (.bool (l == l')) ∧ Below w.heap.size w w' := by
 have HN := Lib.hid hd.len
 have HN' := Lib.hid hd'.len
 by_cases hlen : n = n'
 case neg =>
  have ht : ((n : Int) != n') = true := by simpa using (by omega : ¬ (n : Int) = n')
  have HF := Lib.hid (show (l == l') = false from beq_eq_false_iff_ne.2 fun e => hlen (by rw [HN.out, HN'.out, e]))
  clear hlen
  go_enter Tryz.func221, Tryz.ntmps221
  go_wp2_with fail
  go_ret
  exact ⟨ret_b HF.out.symm, Below.refl _ _⟩
 subst hlen
 have ht : ((n : Int) != n) = false := by simp
 go_enter Tryz.func221, Tryz.ntmps221
 go_wp2_with fail
 go_loopw [17] (fun i wr => ∃ j : Nat, j ≤ n ∧ i = .int .i64 j ∧ Hid (∀ i, i < j → l[i]? = l'[i]?) ∧ Below w.heap.size w wr) (fun i _ => n - (intOf i).toNat)
 case atStart => exact ⟨0, by omega, rfl, Lib.hid fun i h => by omega, Below.refl _ _⟩
 case round =>
  obtain ⟨j, hj, rfl, HA, hb⟩ := hrel
  by_cases hlt : j < n
  case neg =>
   have e2 : decide ((j : Int) < n) = false := decide_eq_false (by omega)
   have HF := Lib.hid (show (l == l') = true by
    have e := list_eq HN.out HN'.out (fun i hi => HA.out i (by omega))
    rw [e, beq_self_eq_true])
   go_wp2_with fail
   go_ret
   exact ⟨ret_b HF.out.symm, hb⟩
  have e2 : decide ((j : Int) < n) = true := decide_eq_true (by omega)
  have hlti : (j : Int) < n := by omega
  obtain ⟨x, hx⟩ := getS HN.out hlt
  obtain ⟨y, hy⟩ := getS HN'.out hlt
  have HX := Lib.hid hx
  have HY := Lib.hid hy
  have HNL := Lib.hid (show x.2.length ≤ 35184372088832 by have h1 := sumN_at hx; have h2 := hs.out; unfold big32 at h2; omega)
  obtain ⟨b, off, A1, n1, c1, rfl, hbl, k0w, k1w, hnf, hnc'⟩ := hd.segAt hx
  obtain ⟨b', off', A2, n2, c2, rfl, hbl', q0w, q1w, hnf', hnc2⟩ := hd'.segAt hy
  have hbl : b < w.heap.size := hbl
  have hbl' : b' < w.heap.size := hbl'
  have wj : IntKind.i64.wrap ((j : Int) + 1) = (j : Int) + 1 := IntWalk.i64_in _ ⟨by omega, by omega⟩
  have k0 := (hb.cell (p := ⟨b, off + j * 2, none⟩) hbl).trans k0w
  have k1 := (hb.cell (p := ⟨b, off + j * 2 + 1, none⟩) hbl).trans k1w
  have bX := hb.alloc hb.size (.cells #[.int .i64 x.1, .slice A1 n1 c1] 229)
  have bXY := bX.alloc bX.size (.cells #[.int .i64 y.1, .slice A2 n2 c2] 229)
  have q0 := (bX.cell (p := ⟨b', off' + j * 2, none⟩) hbl').trans q0w
  have q1 := (bX.cell (p := ⟨b', off' + j * 2 + 1, none⟩) hbl').trans q1w
  have hX := (Blk.new wr 229 #[.int .i64 x.1, .slice A1 n1 c1]).alloc (.cells #[.int .i64 y.1, .slice A2 n2 c2] 229)
  have hY := Blk.new (wr.alloc (.cells #[.int .i64 x.1, .slice A1 n1 c1] 229)) 229 #[.int .i64 y.1, .slice A2 n2 c2]
  rw [show (wr.alloc (.cells #[.int .i64 x.1, .slice A1 n1 c1] 229)).heap.size = wr.heap.size + 1 by simp] at hY
  have x0 := hX.cell 0
  have x1 := hX.cell 1
  have y0 := hY.cell 0
  have y1 := hY.cell 1
  have ns := (hnf.lt.below bXY).more bXY.size
  have ns' := (hnf'.lt.below bXY).more bXY.size
  have hl1 : n1 ≤ 35184372088832 := by have := hnf.1; have := HNL.out; omega
  have HL1 := Lib.hid hl1
  clear hl1 hx hy hnf hnf' k0w k1w q0w q1w
  obtain ⟨r, hr⟩ : ∃ r, (x.1 == y.1 && x.2 == y.2) = r := ⟨_, rfl⟩
  have HR := Lib.hid hr
  have HC := sameSeg x.1 y.1 A1 A2 n1 n2 c1 c2 x.2 y.2 _ ns ns' HL1.out
  rw [hr] at HC
  have HCC := Lib.hid HC
  clear hr HC
  go_wp2_with fail
  refine HCC.out.mono ?_
  rintro _ w2 ⟨rfl, b2⟩
  have b02 := btr bXY b2 bXY.size
  cases r
  ·have HF := Lib.hid (seg_ne HX.out HY.out HR.out)
   go_wp2_with fail
   go_ret
   exact ⟨ret_b HF.out.symm, b02⟩
  ·have HS := Lib.hid (seg_step HA.out HX.out HY.out HR.out)
   go_wp2_with fail
   go_roundw
   case rel => exact ⟨j + 1, by omega, by go_num, HS, b02⟩
   case measure => simp [intOf]; omega
set_option maxHeartbeats 2000000 in
set_option maxRecDepth 100000 in
theorem aspSame (A A' : Option Addr) (n n' c c' : Nat) (l l' : List Seg) (w : World) (hd : DL rSeg 2 w (Lo w) A n l) (hd' : DL rSeg 2 w (Lo w) A' n' l') (hn : n ≤ 100000) (hs : Hid (sumN l ≤ big32)) :
  Calls Tryz.prog 184 #[.slice A n c, .slice A' n' c'] w fun e w' => e = .returned (.bool (l == l')) ∧ Below w.heap.size w w' := by
 go_enter Tryz.func184, Tryz.ntmps184
 go_wp2_with fail
 refine (equalFuncS A A' n n' c c' l l' _ hd hd' hn hs).mono ?_
 rintro _ w1 ⟨rfl, b1⟩
 go_wp2_with fail
 go_ret
 exact ⟨rfl, b1⟩
set_option maxHeartbeats 1000000 in
set_option maxRecDepth 100000 in
theorem equalN8 (A A' : Option Addr) (n n' c c' : Nat) (l l' : List Int) (w : World) (B B' : Nat) (h : NS .u8 w B A n l) (h' : NS .u8 w B' A' n' l') (hbd : n ≤ 140737488355320) :
  Calls Tryz.prog 187 #[.slice A n c, .slice A' n' c'] w fun en w' => en = .returned (.bool (l == l')) ∧ ∃ q, w' = w.drewN q := by
 have hn : n = l.length := h.1
 have hn' : n' = l'.length := h'.1
 by_cases hlen : n = n'
 ·have HN := Lib.hid hn
  have HN' := Lib.hid hn'
  subst hlen
  clear hn hn'
  go_enter Tryz.func187, Tryz.ntmps187
  go_wp2_with fail
  go_loopw [13] (fun i wr => ∃ j q : Nat, j ≤ n ∧ i = .int .i64 j ∧ wr = w.drewN q ∧ Hid (l.take j = l'.take j)) (fun i _ => n - (intOf i).toNat)
  case atStart => exact ⟨0, 0, by omega, rfl, rfl, Lib.hid rfl⟩
  case round =>
   obtain ⟨j, q, hj, rfl, rfl, ht⟩ := hrel
   by_cases hlt : j < n
   ·obtain ⟨b, off, rfl, hbw, hcw⟩ := h.form hlt
    obtain ⟨b', off', rfl, hbw', hcw'⟩ := h'.form hlt
    have hlti : (j : Int) < n := by omega
    have hd : decide ((j : Int) < n) = true := decide_eq_true hlti
    obtain ⟨x, hx⟩ : ∃ x, l[j]?.getD 0 = x := ⟨_, rfl⟩
    obtain ⟨y, hy⟩ : ∃ y, l'[j]?.getD 0 = y := ⟨_, rfl⟩
    rw [hx] at hcw
    rw [hy] at hcw'
    have HXX := Lib.hid hx
    have HYY := Lib.hid hy
    clear hx hy
    by_cases e : x = y
    ·subst e
     go_wp2_with fail
     go_quiet (fail)
     go_wp2_with fail
     go_roundw
     case rel =>
      refine ⟨j + 1, q + nq, by omega, by go_num, rfl, Lib.hid ?_⟩
      exact take_succ_eq ht.out (by have := HN.out; omega) (by have := HN'.out; omega) (HXX.out.trans HYY.out.symm)
     case measure => simp [intOf]; omega
    ·have ht2 : (x != y) = true := by simpa using e
     go_wp2_with fail
     go_quiet (fail)
     go_wp2_with fail
     go_ret
     refine ⟨ret_b ?_, q + nq, World.drewN_drewN _ _ _⟩
     refine (beq_eq_false_iff_ne.2 fun hll => e ?_).symm
     rw [← HXX.out, ← HYY.out, hll]
   ·have hj' : j = n := by omega
    go_wp2_with fail
    go_ret
    refine ⟨ret_b ?_, q, rfl⟩
    subst hj'
    have e := ht.out
    rw [List.take_of_length_le (by have := HN.out; omega), List.take_of_length_le (by have := HN'.out; omega)] at e
    rw [e, beq_self_eq_true]
 ·have ht : ((n : Int) != n') = true := by simpa using (by omega : ¬ (n : Int) = n')
  have hf : (l == l') = false := beq_eq_false_iff_ne.2 fun e => hlen (by rw [hn, hn', e])
  go_enter Tryz.func187, Tryz.ntmps187
  go_wp2_with fail
  go_ret
  exact ⟨ret_b hf.symm, 0, rfl⟩
theorem BS.ns8 {w : World} {B n : Nat} {A : Option Addr} {l : List UInt8} (h : BS w B A n l) : NS .u8 w B A n (l.map fun b => ((b.toNat : Nat) : Int)) := by
 refine ⟨by rw [List.length_map]; exact h.1, ?_, fun x hx => ?_⟩
 ·have := h.2
  unfold bv at this
  rw [List.map_map]
  exact this
 ·obtain ⟨b, _, rfl⟩ := List.mem_map.1 hx
  have := UInt8.toNat_lt b
  simp [Lit.wf, IntKind.min, IntKind.max, IntKind.signed, IntKind.bits]
  omega
theorem bytes_eq (l l' : List UInt8) : ((l.map fun b => ((b.toNat : Nat) : Int)) == (l'.map fun b => ((b.toNat : Nat) : Int))) = (l == l') := by
 rw [Bool.eq_iff_iff, beq_iff_eq, beq_iff_eq]
 refine ⟨fun h => ?_, fun h => by rw [h]⟩
 refine (List.map_inj_right (f := fun b : UInt8 => ((b.toNat : Nat) : Int)) (fun a b e => ?_)).1 h
 exact UInt8.toNat_inj.1 (by omega)
theorem equalB (A A' : Option Addr) (n n' c c' : Nat) (l l' : List UInt8) (w : World) (B B' : Nat) (h : BS w B A n l) (h' : BS w B' A' n' l') (hbd : n ≤ 140737488355320) :
  Calls Tryz.prog 187 #[.slice A n c, .slice A' n' c'] w fun en w' => en = .returned (.bool (l == l')) ∧ ∃ q, w' = w.drewN q := by
 have := equalN8 A A' n n' c c' _ _ w B B' h.ns8 h'.ns8 hbd
 rwa [bytes_eq] at this
set_option maxHeartbeats 2000000 in
set_option maxRecDepth 100000 in
theorem sameRaw (f t f' t' : Int) (A A' : Option Addr) (n n' c c' : Nat) (zs zs' : List UInt8) (w : World) (h : BS w w.heap.size A n zs) (h' : BS w w.heap.size A' n' zs') (hbd : n ≤ 140737488355320) :
  Calls Tryz.prog 186 #[.agg #[.int .i64 f, .int .i64 t, .slice A n c], .agg #[.int .i64 f', .int .i64 t', .slice A' n' c']] w fun e w' => e = .returned (.bool (f == f' && (t == t' && zs == zs'))) ∧ Below w.heap.size w w' := by
 obtain ⟨W, hW, hX, hY, b0⟩ := boxes2 w #[.int .i64 f, .int .i64 t, .slice A n c] #[.int .i64 f', .int .i64 t', .slice A' n' c'] 168 168
 have x0 := hX.cell 0
 have x1 := hX.cell 1
 have x2 := hX.cell 2
 have y0 := hY.cell 0
 have y1 := hY.cell 1
 have y2 := hY.cell 2
 have ns := h.below b0
 have ns' := h'.below b0
 by_cases hk : f = f'
 case neg =>
  have t1 : (f == f') = false := by simpa using hk
  have HT := Lib.hid t1
  clear hk
  go_enter Tryz.func186, Tryz.ntmps186
  go_upto_region 1 with fail
  try rw [hW]
  clear hW
  go_wp2_with fail
  go_ret
  exact ⟨by rw [HT.out]; rfl, b0⟩
 have t1 : (f == f') = true := by simpa using hk
 have HT := Lib.hid t1
 clear hk
 by_cases hk2 : t = t'
 case neg =>
  have t2 : (t == t') = false := by simpa using hk2
  have HT2 := Lib.hid t2
  clear hk2
  go_enter Tryz.func186, Tryz.ntmps186
  go_upto_region 1 with fail
  try rw [hW]
  clear hW
  go_wp2_with fail
  go_ret
  exact ⟨by rw [HT.out, HT2.out]; rfl, b0⟩
 have t2 : (t == t') = true := by simpa using hk2
 have HT2 := Lib.hid t2
 clear hk2
 go_enter Tryz.func186, Tryz.ntmps186
 go_upto_region 1 with fail
 try rw [hW]
 clear hW
 go_wp2_with fail
 refine (equalB A A' n n' c c' zs zs' _ _ _ ns ns' hbd).mono ?_
 rintro _ _ ⟨rfl, q, rfl⟩
 go_wp2_with fail
 go_ret
 exact ⟨by rw [HT.out, HT2.out]; rfl, below_drewN b0 q⟩
theorem raw_ne {x y : RawV} {l l' : List RawV} {j : Nat} (hx : l[j]? = some x) (hy : l'[j]? = some y) (h : (x.1 == y.1 && (x.2.1 == y.2.1 && x.2.2 == y.2.2)) = false) : (l == l') = false := by
 refine beq_eq_false_iff_ne.2 fun e => ?_
 rw [e, hy] at hx
 injection hx with hx
 subst hx
 simp at h
theorem raw_step {x y : RawV} {l l' : List RawV} {j : Nat} (ha : ∀ i, i < j → l[i]? = l'[i]?) (hx : l[j]? = some x) (hy : l'[j]? = some y) (h : (x.1 == y.1 && (x.2.1 == y.2.1 && x.2.2 == y.2.2)) = true) : ∀ i, i < j + 1 → l[i]? = l'[i]? := by
 intro i hi
 rcases Nat.lt_or_ge i j with h1 | h1
 ·exact ha i h1
 ·rw [show i = j by omega, hx, hy]
  simp only [Bool.and_eq_true, beq_iff_eq] at h
  congr 1
  exact Prod.ext h.1 (Prod.ext h.2.1 h.2.2)
set_option maxHeartbeats 4000000 in
set_option maxRecDepth 100000 in
theorem equalFuncR (A A' : Option Addr) (n n' c c' : Nat) (l l' : List RawV) (w : World) (hd : DL rRaw 3 w (Lo w) A n l) (hd' : DL rRaw 3 w (Lo w) A' n' l') (hn : n ≤ 100000) (hs : Hid (∀ x ∈ l, x.2.2.length ≤ 100000)) :
  Calls Tryz.prog 188 #[.slice A n c, .slice A' n' c', .func (.func 186) #[] #[]] w fun e w' => e = .returned (.bool (l == l')) ∧ Below w.heap.size w w' := by
 have HN := Lib.hid hd.len
 have HN' := Lib.hid hd'.len
 by_cases hlen : n = n'
 case neg =>
  have ht : ((n : Int) != n') = true := by simpa using (by omega : ¬ (n : Int) = n')
  have HF := Lib.hid (show (l == l') = false from beq_eq_false_iff_ne.2 fun e => hlen (by rw [HN.out, HN'.out, e]))
  clear hlen
  go_enter Tryz.func188, Tryz.ntmps188
  go_wp2_with fail
  go_ret
  exact ⟨ret_b HF.out.symm, Below.refl _ _⟩
 subst hlen
 have ht : ((n : Int) != n) = false := by simp
 go_enter Tryz.func188, Tryz.ntmps188
 go_wp2_with fail
 go_loopw [17] (fun i wr => ∃ j : Nat, j ≤ n ∧ i = .int .i64 j ∧ Hid (∀ i, i < j → l[i]? = l'[i]?) ∧ Below w.heap.size w wr) (fun i _ => n - (intOf i).toNat)
 case atStart => exact ⟨0, by omega, rfl, Lib.hid fun i h => by omega, Below.refl _ _⟩
 case round =>
  obtain ⟨j, hj, rfl, HA, hb⟩ := hrel
  by_cases hlt : j < n
  case neg =>
   have e2 : decide ((j : Int) < n) = false := decide_eq_false (by omega)
   have HF := Lib.hid (show (l == l') = true by
    have e := list_eq HN.out HN'.out (fun i hi => HA.out i (by omega))
    rw [e, beq_self_eq_true])
   go_wp2_with fail
   go_ret
   exact ⟨ret_b HF.out.symm, hb⟩
  have e2 : decide ((j : Int) < n) = true := decide_eq_true (by omega)
  have hlti : (j : Int) < n := by omega
  obtain ⟨x, hx⟩ := getL HN.out hlt
  obtain ⟨y, hy⟩ := getL HN'.out hlt
  have HX := Lib.hid hx
  have HY := Lib.hid hy
  have HNL := Lib.hid (hs.out x (List.mem_of_getElem? hx))
  obtain ⟨b, off, A1, n1, c1, rfl, hbl, k0w, k1w, k2w, hnf, hnc', _, _⟩ := hd.rawAt hx
  obtain ⟨b', off', A2, n2, c2, rfl, hbl', q0w, q1w, q2w, hnf', hnc2, _, _⟩ := hd'.rawAt hy
  have hbl : b < w.heap.size := hbl
  have hbl' : b' < w.heap.size := hbl'
  have wj : IntKind.i64.wrap ((j : Int) + 1) = (j : Int) + 1 := IntWalk.i64_in _ ⟨by omega, by omega⟩
  have k0 := (hb.cell (p := ⟨b, off + j * 3, none⟩) hbl).trans k0w
  have k1 := (hb.cell (p := ⟨b, off + j * 3 + 1, none⟩) hbl).trans k1w
  have k2 := (hb.cell (p := ⟨b, off + j * 3 + 2, none⟩) hbl).trans k2w
  have bX := hb.alloc hb.size (.cells #[.int .i64 x.1, .int .i64 x.2.1, .slice A1 n1 c1] 168)
  have bXY := bX.alloc bX.size (.cells #[.int .i64 y.1, .int .i64 y.2.1, .slice A2 n2 c2] 168)
  have q0 := (bX.cell (p := ⟨b', off' + j * 3, none⟩) hbl').trans q0w
  have q1 := (bX.cell (p := ⟨b', off' + j * 3 + 1, none⟩) hbl').trans q1w
  have q2 := (bX.cell (p := ⟨b', off' + j * 3 + 2, none⟩) hbl').trans q2w
  have hX := (Blk.new wr 168 #[.int .i64 x.1, .int .i64 x.2.1, .slice A1 n1 c1]).alloc (.cells #[.int .i64 y.1, .int .i64 y.2.1, .slice A2 n2 c2] 168)
  have hY := Blk.new (wr.alloc (.cells #[.int .i64 x.1, .int .i64 x.2.1, .slice A1 n1 c1] 168)) 168 #[.int .i64 y.1, .int .i64 y.2.1, .slice A2 n2 c2]
  rw [show (wr.alloc (.cells #[.int .i64 x.1, .int .i64 x.2.1, .slice A1 n1 c1] 168)).heap.size = wr.heap.size + 1 by simp] at hY
  have x0 := hX.cell 0
  have x1 := hX.cell 1
  have x2 := hX.cell 2
  have y0 := hY.cell 0
  have y1 := hY.cell 1
  have y2 := hY.cell 2
  have ns := ((hnf.lt.below bXY).more bXY.size)
  have ns' := ((hnf'.lt.below bXY).more bXY.size)
  have hl1 : n1 ≤ 140737488355320 := by have := hnf.1; have := HNL.out; omega
  have HL1 := Lib.hid hl1
  clear hl1 hx hy hnf hnf' k0w k1w q0w q1w k2w q2w
  obtain ⟨r, hr⟩ : ∃ r, (x.1 == y.1 && (x.2.1 == y.2.1 && x.2.2 == y.2.2)) = r := ⟨_, rfl⟩
  have HR := Lib.hid hr
  have HC := sameRaw x.1 x.2.1 y.1 y.2.1 A1 A2 n1 n2 c1 c2 x.2.2 y.2.2 _ ns ns' HL1.out
  rw [hr] at HC
  have HCC := Lib.hid HC
  clear hr HC
  go_wp2_with fail
  refine HCC.out.mono ?_
  rintro _ w2 ⟨rfl, b2⟩
  have b02 := btr bXY b2 bXY.size
  cases r
  ·have HF := Lib.hid (raw_ne HX.out HY.out HR.out)
   go_wp2_with fail
   go_ret
   exact ⟨ret_b HF.out.symm, b02⟩
  ·have HS := Lib.hid (raw_step HA.out HX.out HY.out HR.out)
   go_wp2_with fail
   go_roundw
   case rel => exact ⟨j + 1, by omega, by go_num, HS, b02⟩
   case measure => simp [intOf]; omega
def sameAt (a b : At) : Bool := a.path == b.path && a.comms == b.comms && a.raws == b.raws && a.origin == b.origin && a.next == b.next && a.med == b.med && a.pref == b.pref && a.atomic == b.atomic && a.hasAggr == b.hasAggr && a.aggrAS == b.aggrAS && a.aggrAddr == b.aggrAddr
theorem sameAt_iff {a b : At} : sameAt a b = true ↔ a = b := by
 unfold sameAt
 simp only [Bool.and_eq_true, beq_iff_eq]
 constructor
 ·rintro ⟨⟨⟨⟨⟨⟨⟨⟨⟨⟨h1, h2⟩, h3⟩, h4⟩, h5⟩, h6⟩, h7⟩, h8⟩, h9⟩, h10⟩, h11⟩
  cases a; cases b
  simp only at h1 h2 h3 h4 h5 h6 h7 h8 h9 h10 h11
  subst h1 h2 h3 h4 h5 h6 h7 h8 h9 h10 h11
  rfl
 ·rintro rfl
  simp
theorem sameAt_no {a b : At} (h : a ≠ b) : sameAt a b = false := by
 cases hs : sameAt a b
 ·rfl
 ·exact absurd (sameAt_iff.1 hs) h
set_option maxHeartbeats 8000000 in
set_option maxRecDepth 100000 in
theorem attSame (o : Int) (A : Option Addr) (n c : Nat) (path : List Seg) (nx md pf : Int) (at_ ha : Bool) (gs ga : Int) (A1 : Option Addr) (n1 c1 : Nat) (comms : List Int) (A2 : Option Addr) (n2 c2 : Nat) (raws : List RawV) (o' : Int) (A' : Option Addr) (n' c' : Nat) (path' : List Seg) (nx' md' pf' : Int) (at_' ha' : Bool) (gs' ga' : Int) (A1' : Option Addr) (n1' c1' : Nat) (comms' : List Int) (A2' : Option Addr) (n2' c2' : Nat) (raws' : List RawV) (w : World) (hp : DL rSeg 2 w (Lo w) A n path) (hc : NF w (Lo w) A1 n1 comms) (hd : DL rRaw 3 w (Lo w) A2 n2 raws) (hp' : DL rSeg 2 w (Lo w) A' n' path') (hc' : NF w (Lo w) A1' n1' comms') (hd' : DL rRaw 3 w (Lo w) A2' n2' raws') (hn : n ≤ 100000) (hs : Hid (sumN path ≤ big32)) (hn1 : n1 ≤ 100000) (hn2 : n2 ≤ 100000) (hr : Hid (∀ x ∈ raws, x.2.2.length ≤ 100000)) :
  Calls Tryz.prog 133 #[.agg #[.int .i64 o, .slice A n c, .int .u32 nx, .int .i64 md, .int .i64 pf, .bool at_, .bool ha, .int .u32 gs, .int .u32 ga, .slice A1 n1 c1, .slice A2 n2 c2], .agg #[.int .i64 o', .slice A' n' c', .int .u32 nx', .int .i64 md', .int .i64 pf', .bool at_', .bool ha', .int .u32 gs', .int .u32 ga', .slice A1' n1' c1', .slice A2' n2' c2']] w fun en w' => en = .returned (.bool (sameAt (⟨o, path, nx, md, pf, at_, ha, gs, ga, comms, raws⟩ : At) (⟨o', path', nx', md', pf', at_', ha', gs', ga', comms', raws'⟩ : At))) ∧ Below w.heap.size w w' := by
 have HN := Lib.hid hd.len
 have HN' := Lib.hid hd'.len
 have HC := Lib.hid hc.1
 have HC' := Lib.hid hc'.1
 obtain ⟨W, hW, hX, hY, bW⟩ := boxes2 w #[.int .i64 o, .slice A n c, .int .u32 nx, .int .i64 md, .int .i64 pf, .bool at_, .bool ha, .int .u32 gs, .int .u32 ga, .slice A1 n1 c1, .slice A2 n2 c2] #[.int .i64 o', .slice A' n' c', .int .u32 nx', .int .i64 md', .int .i64 pf', .bool at_', .bool ha', .int .u32 gs', .int .u32 ga', .slice A1' n1' c1', .slice A2' n2' c2'] 75 75
 have hdW := hd.keep rRaw_ok (Kp.call bW)
 have hdW' := hd'.keep rRaw_ok (Kp.call bW)
 have hpW := hp.keep rSeg_ok (Kp.call bW)
 have hpW' := hp'.keep rSeg_ok (Kp.call bW)
 have hcW := hc.keep (Kp.call bW)
 have hcW' := hc'.keep (Kp.call bW)
 go_enter Tryz.func133, Tryz.ntmps133
 go_upto_region 1 with fail
 try rw [hW]
 clear hW
 have hXl := hX.lt
 have hYl := hY.lt
 obtain ⟨q, hq⟩ : ∃ q, w.heap.size = q := ⟨_, rfl⟩
 have HQ := Lib.hid hq
 rw [hq] at hX hY hXl hYl
 try rw [hq]
 clear hq hp hp' hc hc' hd hd'
 have x1 : W.cell? ⟨q, 1, none⟩ = some (.slice A n c) := hX.cell 1
 have y1 : W.cell? ⟨q + 1, 1, none⟩ = some (.slice A' n' c') := hY.cell 1
 have HPE := Lib.hid (aspSame A A' n n' c c' path path' W hpW hpW' hn hs)
 obtain ⟨pe, hpe⟩ : ∃ pe, (path == path') = pe := ⟨_, rfl⟩
 rw [hpe] at HPE
 have HPB := Lib.hid hpe
 clear hpe
 go_wp2_with fail
 refine HPE.out.mono ?_
 rintro _ w5 ⟨rfl, b5⟩
 have b05 := btr bW b5 bW.size
 have hX5 := hX.below b5 hXl
 have hY5 := hY.below b5 hYl
 clear x1 y1
 have x9 : w5.cell? ⟨q, 9, none⟩ = some (.slice A1 n1 c1) := hX5.cell 9
 have y9 : w5.cell? ⟨q + 1, 9, none⟩ = some (.slice A1' n1' c1') := hY5.cell 9
 cases pe
 ·skip
  have HG := Lib.hid (show sameAt (⟨o, path, nx, md, pf, at_, ha, gs, ga, comms, raws⟩ : At) (⟨o', path', nx', md', pf', at_', ha', gs', ga', comms', raws'⟩ : At) = false from sameAt_no (fun e => by injection e with e0 e1 e2 e3 e4 e5 e6 e7 e8 e9 e10; exact absurd HPB.out (by rw [e1]; simp)))
  go_wp2_with fail
  go_ret
  exact ⟨ret_b HG.out.symm, b05⟩
 have HPP := Lib.hid (show path = path' from beq_iff_eq.1 HPB.out)
 have HCE := Lib.hid (equalU A1 A1' n1 n1' c1 c1' comms comms' w5 _ _ (hcW.keep (Kp.call b5)).lt (hcW'.keep (Kp.call b5)).lt (by omega))
 obtain ⟨ce, hce⟩ : ∃ ce, (comms == comms') = ce := ⟨_, rfl⟩
 rw [hce] at HCE
 have HCB := Lib.hid hce
 clear hce
 go_wp2_with fail
 refine HCE.out.mono ?_
 rintro _ _ ⟨rfl, q6, rfl⟩
 have b6 := below_drewN (Below.refl w5.heap.size w5) q6
 obtain ⟨w6, hw6⟩ : ∃ W', w5.drewN q6 = W' := ⟨_, rfl⟩
 rw [hw6] at b6
 rw [hw6]
 clear hw6
 have b06 := btr b05 b6 b05.size
 have hX6 := hX5.below b6 hX5.lt
 have hY6 := hY5.below b6 hY5.lt
 clear x9 y9
 have x10 : w6.cell? ⟨q, 10, none⟩ = some (.slice A2 n2 c2) := hX6.cell 10
 have y10 : w6.cell? ⟨q + 1, 10, none⟩ = some (.slice A2' n2' c2') := hY6.cell 10
 cases ce
 ·skip
  have HG := Lib.hid (show sameAt (⟨o, path, nx, md, pf, at_, ha, gs, ga, comms, raws⟩ : At) (⟨o', path', nx', md', pf', at_', ha', gs', ga', comms', raws'⟩ : At) = false from sameAt_no (fun e => by injection e with e0 e1 e2 e3 e4 e5 e6 e7 e8 e9 e10; exact absurd HCB.out (by rw [e9]; simp)))
  go_wp2_with fail
  go_ret
  exact ⟨ret_b HG.out.symm, b06⟩
 have HCC := Lib.hid (show comms = comms' from beq_iff_eq.1 HCB.out)
 have HRE := Lib.hid (equalFuncR A2 A2' n2 n2' c2 c2' raws raws' w6 ((hdW.keep rRaw_ok (Kp.call b5)).keep rRaw_ok (Kp.call b6)) ((hdW'.keep rRaw_ok (Kp.call b5)).keep rRaw_ok (Kp.call b6)) hn2 hr)
 obtain ⟨re, hre⟩ : ∃ re, (raws == raws') = re := ⟨_, rfl⟩
 rw [hre] at HRE
 have HRB := Lib.hid hre
 clear hre
 go_wp2_with fail
 refine HRE.out.mono ?_
 rintro _ w7 ⟨rfl, b7⟩
 have b07 := btr b06 b7 b06.size
 have hX7 := hX6.below b7 hX6.lt
 have hY7 := hY6.below b7 hY6.lt
 clear x10 y10
 have x0 : w7.cell? ⟨q, 0, none⟩ = some (.int .i64 o) := hX7.cell 0
 have y0 : w7.cell? ⟨q + 1, 0, none⟩ = some (.int .i64 o') := hY7.cell 0
 have x2 : w7.cell? ⟨q, 2, none⟩ = some (.int .u32 nx) := hX7.cell 2
 have y2 : w7.cell? ⟨q + 1, 2, none⟩ = some (.int .u32 nx') := hY7.cell 2
 have x3 : w7.cell? ⟨q, 3, none⟩ = some (.int .i64 md) := hX7.cell 3
 have y3 : w7.cell? ⟨q + 1, 3, none⟩ = some (.int .i64 md') := hY7.cell 3
 have x4 : w7.cell? ⟨q, 4, none⟩ = some (.int .i64 pf) := hX7.cell 4
 have y4 : w7.cell? ⟨q + 1, 4, none⟩ = some (.int .i64 pf') := hY7.cell 4
 have x5 : w7.cell? ⟨q, 5, none⟩ = some (.bool at_) := hX7.cell 5
 have y5 : w7.cell? ⟨q + 1, 5, none⟩ = some (.bool at_') := hY7.cell 5
 have x6 : w7.cell? ⟨q, 6, none⟩ = some (.bool ha) := hX7.cell 6
 have y6 : w7.cell? ⟨q + 1, 6, none⟩ = some (.bool ha') := hY7.cell 6
 have x7 : w7.cell? ⟨q, 7, none⟩ = some (.int .u32 gs) := hX7.cell 7
 have y7 : w7.cell? ⟨q + 1, 7, none⟩ = some (.int .u32 gs') := hY7.cell 7
 have x8 : w7.cell? ⟨q, 8, none⟩ = some (.int .u32 ga) := hX7.cell 8
 have y8 : w7.cell? ⟨q + 1, 8, none⟩ = some (.int .u32 ga') := hY7.cell 8
 cases re
 ·skip
  have HG := Lib.hid (show sameAt (⟨o, path, nx, md, pf, at_, ha, gs, ga, comms, raws⟩ : At) (⟨o', path', nx', md', pf', at_', ha', gs', ga', comms', raws'⟩ : At) = false from sameAt_no (fun e => by injection e with e0 e1 e2 e3 e4 e5 e6 e7 e8 e9 e10; exact absurd HRB.out (by rw [e10]; simp)))
  go_wp2_with fail
  go_ret
  exact ⟨ret_b HG.out.symm, b07⟩
 have HRR := Lib.hid (show raws = raws' from beq_iff_eq.1 HRB.out)
 by_cases k0 : o = o'
 case neg =>
  have t0 : (o != o') = true := by simpa using k0
  have HG := Lib.hid (show sameAt (⟨o, path, nx, md, pf, at_, ha, gs, ga, comms, raws⟩ : At) (⟨o', path', nx', md', pf', at_', ha', gs', ga', comms', raws'⟩ : At) = false from sameAt_no (fun e => by injection e with e0 e1 e2 e3 e4 e5 e6 e7 e8 e9 e10; exact k0 e0))
  go_wp2_with fail
  go_ret
  exact ⟨ret_b HG.out.symm, b07⟩
 have t0 : (o != o') = false := by simpa using k0
 have K0 := Lib.hid k0
 clear k0
 by_cases k2 : nx = nx'
 case neg =>
  have t2 : (nx != nx') = true := by simpa using k2
  have HG := Lib.hid (show sameAt (⟨o, path, nx, md, pf, at_, ha, gs, ga, comms, raws⟩ : At) (⟨o', path', nx', md', pf', at_', ha', gs', ga', comms', raws'⟩ : At) = false from sameAt_no (fun e => by injection e with e0 e1 e2 e3 e4 e5 e6 e7 e8 e9 e10; exact k2 e2))
  go_wp2_with fail
  go_ret
  exact ⟨ret_b HG.out.symm, b07⟩
 have t2 : (nx != nx') = false := by simpa using k2
 have K2 := Lib.hid k2
 clear k2
 by_cases k3 : md = md'
 case neg =>
  have t3 : (md != md') = true := by simpa using k3
  have HG := Lib.hid (show sameAt (⟨o, path, nx, md, pf, at_, ha, gs, ga, comms, raws⟩ : At) (⟨o', path', nx', md', pf', at_', ha', gs', ga', comms', raws'⟩ : At) = false from sameAt_no (fun e => by injection e with e0 e1 e2 e3 e4 e5 e6 e7 e8 e9 e10; exact k3 e3))
  go_wp2_with fail
  go_ret
  exact ⟨ret_b HG.out.symm, b07⟩
 have t3 : (md != md') = false := by simpa using k3
 have K3 := Lib.hid k3
 clear k3
 by_cases k4 : pf = pf'
 case neg =>
  have t4 : (pf != pf') = true := by simpa using k4
  have HG := Lib.hid (show sameAt (⟨o, path, nx, md, pf, at_, ha, gs, ga, comms, raws⟩ : At) (⟨o', path', nx', md', pf', at_', ha', gs', ga', comms', raws'⟩ : At) = false from sameAt_no (fun e => by injection e with e0 e1 e2 e3 e4 e5 e6 e7 e8 e9 e10; exact k4 e4))
  go_wp2_with fail
  go_ret
  exact ⟨ret_b HG.out.symm, b07⟩
 have t4 : (pf != pf') = false := by simpa using k4
 have K4 := Lib.hid k4
 clear k4
 by_cases k5 : at_ = at_'
 case neg =>
  have t5 : (at_ == at_') = false := by simpa using k5
  have HG := Lib.hid (show sameAt (⟨o, path, nx, md, pf, at_, ha, gs, ga, comms, raws⟩ : At) (⟨o', path', nx', md', pf', at_', ha', gs', ga', comms', raws'⟩ : At) = false from sameAt_no (fun e => by injection e with e0 e1 e2 e3 e4 e5 e6 e7 e8 e9 e10; exact k5 e5))
  go_wp2_with fail
  go_ret
  exact ⟨ret_b HG.out.symm, b07⟩
 have t5 : (at_ == at_') = true := by simpa using k5
 have K5 := Lib.hid k5
 clear k5
 by_cases k6 : ha = ha'
 case neg =>
  have t6 : (ha == ha') = false := by simpa using k6
  have HG := Lib.hid (show sameAt (⟨o, path, nx, md, pf, at_, ha, gs, ga, comms, raws⟩ : At) (⟨o', path', nx', md', pf', at_', ha', gs', ga', comms', raws'⟩ : At) = false from sameAt_no (fun e => by injection e with e0 e1 e2 e3 e4 e5 e6 e7 e8 e9 e10; exact k6 e6))
  go_wp2_with fail
  go_ret
  exact ⟨ret_b HG.out.symm, b07⟩
 have t6 : (ha == ha') = true := by simpa using k6
 have K6 := Lib.hid k6
 clear k6
 by_cases k7 : gs = gs'
 case neg =>
  have t7 : (gs == gs') = false := by simpa using k7
  have HG := Lib.hid (show sameAt (⟨o, path, nx, md, pf, at_, ha, gs, ga, comms, raws⟩ : At) (⟨o', path', nx', md', pf', at_', ha', gs', ga', comms', raws'⟩ : At) = false from sameAt_no (fun e => by injection e with e0 e1 e2 e3 e4 e5 e6 e7 e8 e9 e10; exact k7 e7))
  go_wp2_with fail
  go_ret
  exact ⟨ret_b HG.out.symm, b07⟩
 have t7 : (gs == gs') = true := by simpa using k7
 have K7 := Lib.hid k7
 clear k7
 by_cases k8 : ga = ga'
 case neg =>
  have t8 : (ga == ga') = false := by simpa using k8
  have HG := Lib.hid (show sameAt (⟨o, path, nx, md, pf, at_, ha, gs, ga, comms, raws⟩ : At) (⟨o', path', nx', md', pf', at_', ha', gs', ga', comms', raws'⟩ : At) = false from sameAt_no (fun e => by injection e with e0 e1 e2 e3 e4 e5 e6 e7 e8 e9 e10; exact k8 e8))
  go_wp2_with fail
  go_ret
  exact ⟨ret_b HG.out.symm, b07⟩
 have t8 : (ga == ga') = true := by simpa using k8
 have K8 := Lib.hid k8
 clear k8
 have HG := Lib.hid (show sameAt (⟨o, path, nx, md, pf, at_, ha, gs, ga, comms, raws⟩ : At) (⟨o', path', nx', md', pf', at_', ha', gs', ga', comms', raws'⟩ : At) = true from sameAt_iff.2 (by rw [K0.out, HPP.out, K2.out, K3.out, K4.out, K5.out, K6.out, K7.out, K8.out, HCC.out, HRR.out]))
 go_wp2_with fail
 go_ret
 exact ⟨ret_b HG.out.symm, b07⟩
/-- All numbers of a path are such as fit. -/
def WF (l : List Seg) : Prop := ∀ x ∈ l, ∀ y ∈ x.2, 0 ≤ y ∧ y ≤ 4294967295
def okP (x : Seg) : Prop := (x.1 = 1 ∨ x.1 = 2) ∧ x.2 ≠ [] ∧ ∀ y ∈ x.2, 0 ≤ y ∧ y ≤ 4294967295
theorem okP_of {l : List Seg} (h : rightA l = true) (hw : WF l) : ∀ x ∈ l, okP x := by
 intro x hx
 have h1 := List.all_eq_true.1 (rightA_of h).1 x hx
 unfold okSeg at h1
 have h2 : (x.1 = 1 ∨ x.1 = 2) ∧ x.2.length ≠ 0 ∧ x.2.length ≤ 64 := of_decide_eq_true h1
 exact ⟨h2.1, fun e => h2.2.1 (by rw [e]; rfl), hw x hx⟩
/-- A number as it is read. -/
def nrw (wide : Bool) (y : Int) : Int := if wide = true then y else if 65535 < y then 23456 else y
def nseg (wide : Bool) (x : Seg) : Seg := (x.1, x.2.map (nrw wide))
theorem asB_sz (wide : Bool) (y : Int) : (asB wide y).length = szA wide := by
 unfold asB szA b32 b16
 cases wide
 ·simp only [Bool.false_eq_true, if_false]
  split <;> rfl
 ·rfl
theorem asB_num (wide : Bool) {y : Int} (h0 : 0 ≤ y) (h1 : y ≤ 4294967295) : (numL (asB wide y) : Int) = nrw wide y := by
 unfold asB nrw
 cases wide
 ·simp only [Bool.false_eq_true, if_false]
  split
  ·exact numL_b16 (by omega) (by omega)
  ·exact numL_b16 h0 (by omega)
 ·simp only [if_true]
  exact numL_b32 h0 (by omega)
theorem numsO_put (wide : Bool) : ∀ (zs : List Int) (t : List UInt8), (∀ y ∈ zs, 0 ≤ y ∧ y ≤ 4294967295) → numsO (szA wide) zs.length (zs.flatMap (asB wide) ++ t) = some (zs.map (nrw wide), t)
 | [], t, _ => rfl
 | y :: zs, t, h => by
  have hy := h y (by simp)
  rw [List.flatMap_cons, List.append_assoc, List.length_cons, numsO, if_neg (by rw [List.length_append, asB_sz]; omega), List.drop_left' (asB_sz wide y), List.take_left' (asB_sz wide y), numsO_put wide zs t (fun z hz => h z (by simp [hz])), asB_num wide hy.1 hy.2]
  rfl
theorem ub_len {k : Nat} (h : k ≤ 255) : (ub (IntKind.u8.wrap (k : Int))).toNat = k := by
 have e : IntKind.u8.wrap (k : Int) = k := by rw [IntKind.wrap_u8]; omega
 rw [e]
 have := ub_toNat (e := (k : Int)) (by omega) (by omega)
 omega
theorem oneO_put (wide : Bool) {x : Seg} (h : okP x) (hl : x.2.length ≤ 255) (t : List UInt8) : oneO (szA wide) (segB wide x ++ t) = some (nseg wide x, t) := by
 obtain ⟨k, zs⟩ := x
 obtain ⟨hk, _, hw⟩ := h
 simp only at hk hw hl
 unfold segB
 simp only [List.cons_append, List.nil_append, oneO]
 rw [ub_len hl, numsO_put wide zs t hw]
 have e : ((ub (IntKind.u8.wrap k)).toNat : Int) = k := by
  rcases hk with rfl | rfl <;> decide
 simp only [Option.map_some, nseg, e]
theorem segsO_put (wide : Bool) : ∀ (l : List Seg) (f : Nat), l.length ≤ f → (∀ x ∈ l, okP x ∧ x.2.length ≤ 255) → segsO (szA wide) f (putA wide l) = some (l.map (nseg wide))
 | [], f, _, _ => segsO_nil _ _
 | x :: l, 0, hf, _ => by simp at hf
 | x :: l, f + 1, hf, h => by
  have hx := h x (by simp)
  have e : putA wide (x :: l) = segB wide x ++ putA wide l := by simp [putA]
  have ho := oneO_put wide hx.1 hx.2 (putA wide l)
  have ih := segsO_put wide l f (by simp at hf; omega) (fun y hy => h y (by simp [hy]))
  rw [e]
  obtain ⟨b, bs, hb⟩ : ∃ b bs, segB wide x ++ putA wide l = b :: bs := ⟨_, _, rfl⟩
  rw [hb] at ho ⊢
  rw [segsO, ho]
  simp only
  rw [ih]
  rfl
theorem nseg_sum (wide : Bool) (l : List Seg) : sumN (l.map (nseg wide)) = sumN l := by
 induction l with
 | nil => rfl
 | cons x l ih => rw [List.map_cons, sumN, sumN, ih]; simp [nseg]
theorem nseg_ok (wide : Bool) (l : List Seg) : (l.map (nseg wide)).all okSeg = l.all okSeg := by
 induction l with
 | nil => rfl
 | cons x l ih => rw [List.map_cons, List.all_cons, List.all_cons, ih]; simp [nseg, okSeg]
theorem nseg_right (wide : Bool) (l : List Seg) : rightA (l.map (nseg wide)) = rightA l := by
 unfold rightA
 rw [nseg_ok, nseg_sum, List.length_map]
theorem nseg_wide (l : List Seg) : l.map (nseg true) = l := by
 have : ∀ x : Seg, nseg true x = x := by
  intro x
  unfold nseg
  rw [show nrw true = id from by funext y; rfl, List.map_id]
 rw [show nseg true = id from by funext x; exact this x, List.map_id]
/-- What is put is read. -/
theorem read_put {l : List Seg} (wide : Bool) (h : rightA l = true) (hw : WF l) : readA wide (putA wide l) = some (l.map (nseg wide)) := by
 have hr := rightA_of h
 have hok := okP_of h hw
 have hs : segsO (szA wide) 9 (putA wide l) = some (l.map (nseg wide)) := segsO_put wide l 9 (by omega) (fun x hx => ⟨hok x hx, by
  obtain ⟨i, hi⟩ := List.getElem?_of_mem hx
  have := sumN_at hi
  omega⟩)
 unfold readA
 rw [hs]
 simp only
 rw [nseg_right, h, if_pos rfl]
theorem hasN_false {l : List Int} {c : Int} (h : ∀ y ∈ l, y ≠ c) : hasN l c = false := decide_eq_false fun hm => h c hm rfl
theorem tk_cons (x : UInt8) (r : List UInt8) : numL (tkOut (x :: r) false (1 : Nat)) = x.toNat ∧ tkLeft (x :: r) false (1 : Nat) = r ∧ tkShort (x :: r) false (1 : Nat) = false := by
 obtain ⟨e1, e2, e3⟩ := tk_ok (l := x :: r) (k := 1) (by simp)
 rw [e1, e2, e3]
 exact ⟨by simp [numL], rfl, rfl⟩
theorem tk_app (a r : List UInt8) {k : Nat} (h : a.length = k) : tkOut (a ++ r) false k = a ∧ tkLeft (a ++ r) false k = r ∧ tkShort (a ++ r) false k = false := by
 obtain ⟨e1, e2, e3⟩ := tk_ok (l := a ++ r) (k := k) (by simp; omega)
 rw [e1, e2, e3]
 exact ⟨List.take_left' h, List.drop_left' h, rfl⟩
theorem splitA_is {b t1 t2 t3 t4 v : List UInt8} {s1 s2 s3 s4 : Bool} {V1 V2 V3 z : Nat} (E1 : numL (tkOut b false (1 : Nat)) = V1 ∧ tkLeft b false (1 : Nat) = t1 ∧ tkShort b false (1 : Nat) = s1) (E2 : numL (tkOut t1 s1 (1 : Nat)) = V2 ∧ tkLeft t1 s1 (1 : Nat) = t2 ∧ tkShort t1 s1 (1 : Nat) = s2) (hz : szV V1 = z) (E3 : numL (tkOut t2 s2 z) = V3 ∧ tkLeft t2 s2 z = t3 ∧ tkShort t2 s2 z = s3) (E4 : tkOut t3 s3 V3 = v ∧ tkLeft t3 s3 V3 = t4 ∧ tkShort t3 s3 V3 = s4) :
  splitA b = if s4 = true then none else some (⟨V1, V2, b.take (b.length - t4.length), v⟩, b.drop (b.length - t4.length)) := by
 obtain ⟨rfl, rfl, rfl⟩ := E1
 obtain ⟨rfl, rfl, rfl⟩ := E2
 subst hz
 obtain ⟨rfl, rfl, rfl⟩ := E3
 obtain ⟨rfl, rfl, rfl⟩ := E4
 rfl
/-- The flags as they stand. -/
def flW (fl : Int) (v : List UInt8) : Int := if 255 < v.length then fl + 16 else fl
abbrev Fl4 (fl : Int) : Prop := fl = 64 ∨ fl = 128 ∨ fl = 192 ∨ fl = 224
theorem split_put {fl kind : Int} {v : List UInt8} (hf : Fl4 fl) (hk0 : 0 ≤ kind) (hk1 : kind ≤ 255) (hv : v.length ≤ 60000) (t : List UInt8) :
  splitA (attrB fl kind v ++ t) = some (⟨flW fl v, kind, attrB fl kind v, v⟩, t) := by
 have hkn : ((ub kind).toNat : Int) = kind := ub_toNat hk0 hk1
 have key : ∀ (H : List UInt8), (attrB fl kind v = H ++ v) → splitA (attrB fl kind v ++ t) = some (⟨flW fl v, kind, (attrB fl kind v ++ t).take ((attrB fl kind v ++ t).length - t.length), v⟩, (attrB fl kind v ++ t).drop ((attrB fl kind v ++ t).length - t.length)) → splitA (attrB fl kind v ++ t) = some (⟨flW fl v, kind, attrB fl kind v, v⟩, t) := by
  intro H _ h
  rw [h, show (attrB fl kind v ++ t).length - t.length = (attrB fl kind v).length by simp, List.take_left' rfl, List.drop_left' rfl]
 by_cases hb : 255 < v.length
 ·have e : attrB fl kind v = ([ub (fl + 16), ub kind] ++ b16 (v.length : Int)) ++ v := by unfold attrB; rw [if_pos hb]
  refine key _ e ?_
  have hV : ((ub (fl + 16)).toNat : Int) = fl + 16 := ub_toNat (by rcases hf with rfl | rfl | rfl | rfl <;> decide) (by rcases hf with rfl | rfl | rfl | rfl <;> decide)
  have hz : szV (ub (fl + 16)).toNat = 2 := by rcases hf with rfl | rfl | rfl | rfl <;> decide
  have hn : numL (b16 (v.length : Int)) = v.length := by have := numL_b16 (m := (v.length : Int)) (by omega) (by omega); omega
  have e2 : attrB fl kind v ++ t = ub (fl + 16) :: ub kind :: (b16 (v.length : Int) ++ (v ++ t)) := by rw [e]; simp
  have E3 := tk_app (b16 (v.length : Int)) (v ++ t) (k := 2) rfl
  have E4 := tk_app v t (k := v.length) rfl
  rw [e2]
  rw [splitA_is (tk_cons _ _) (tk_cons _ _) hz ⟨by rw [E3.1, hn], E3.2.1, E3.2.2⟩ E4, if_neg (by decide)]
  unfold flW
  rw [if_pos hb, hV, hkn]
 ·have e : attrB fl kind v = [ub fl, ub kind, ub (v.length : Int)] ++ v := by unfold attrB; rw [if_neg hb]
  refine key _ e ?_
  have hV : ((ub fl).toNat : Int) = fl := ub_toNat (by rcases hf with rfl | rfl | rfl | rfl <;> decide) (by rcases hf with rfl | rfl | rfl | rfl <;> decide)
  have hz : szV (ub fl).toNat = 1 := by rcases hf with rfl | rfl | rfl | rfl <;> decide
  have hn : (ub (v.length : Int)).toNat = v.length := by have := ub_toNat (e := (v.length : Int)) (by omega) (by omega); omega
  have e2 : attrB fl kind v ++ t = ub fl :: ub kind :: ub (v.length : Int) :: (v ++ t) := by rw [e]; simp
  have E3 := tk_cons (ub (v.length : Int)) (v ++ t)
  have E4 := tk_app v t (k := v.length) rfl
  rw [e2]
  rw [splitA_is (tk_cons _ _) (tk_cons _ _) hz ⟨by rw [E3.1, hn], E3.2.1, E3.2.2⟩ E4, if_neg (by decide)]
  unfold flW
  rw [if_neg hb, hV, hkn]
/-- What a reading comes to, whatever the number of rounds. -/
def Lp (wide : Bool) (g : Gr) (b : List UInt8) (r : Except FtA Gr) : Prop := ∀ f, b.length ≤ f → loopA wide f g b = r
theorem Lp.nil (wide : Bool) (g : Gr) : Lp wide g [] (.ok g) := by
 intro f _
 cases f <;> rfl
theorem Lp.attr {wide : Bool} {g g' : Gr} {fl kind : Int} {v t : List UInt8} {r : Except FtA Gr} (hf : Fl4 fl) (hk0 : 0 ≤ kind) (hk1 : kind ≤ 255) (hv : v.length ≤ 60000)
  (hs : stepA wide g ⟨flW fl v, kind, attrB fl kind v, v⟩ = .ok g') (h : Lp wide g' t r) : Lp wide g (attrB fl kind v ++ t) r := by
 intro f hle
 have hsp := split_put hf hk0 hk1 hv t
 have hlen : 3 ≤ (attrB fl kind v).length := by unfold attrB b16; split <;> simp
 obtain ⟨c, cs, hc⟩ : ∃ c cs, attrB fl kind v ++ t = c :: cs := by
  cases hx : attrB fl kind v ++ t with
  | nil =>
   have h0 : (attrB fl kind v ++ t).length = 0 := by rw [hx]; rfl
   rw [List.length_append] at h0
   omega
  | cons c cs => exact ⟨c, cs, rfl⟩
 cases f with
 | zero => rw [List.length_append] at hle; omega
 | succ f =>
  rw [hc] at hsp ⊢
  rw [loopA, hsp]
  simp only
  rw [hs]
  simp only
  refine h f ?_
  rw [List.length_append] at hle
  omega
theorem Lp.only {wide : Bool} {g g' : Gr} {fl kind : Int} {v t : List UInt8} {r : Except FtA Gr} {c : Bool} (hf : Fl4 fl) (hk0 : 0 ≤ kind) (hk1 : kind ≤ 255) (hv : c = true → v.length ≤ 60000)
  (hs : c = true → stepA wide g ⟨flW fl v, kind, attrB fl kind v, v⟩ = .ok g') (hn : c = false → g' = g) (h : Lp wide g' t r) : Lp wide g (onlyIf c (attrB fl kind v) ++ t) r := by
 cases c with
 | true => exact Lp.attr hf hk0 hk1 (hv rfl) (hs rfl) h
 | false =>
  have e := hn rfl
  subst e
  exact h
theorem flW_form {fl kind : Int} {v : List UInt8} (hf : Fl4 fl) (hk : flagsA kind = fl) (all : List UInt8) (wide : Bool) (hb : badLen wide kind v.length = false) : formA wide ⟨flW fl v, kind, all, v⟩ = 0 := by
 have hp : ptF (flW fl v) = false ∨ flagsA kind = 192 := by
  rw [hk]
  unfold flW ptF
  rcases hf with rfl | rfl | rfl | rfl
  ·left; split <;> decide
  ·left; split <;> decide
  ·right; rfl
  ·exfalso
   have : flagsA kind = 0 ∨ flagsA kind = 64 ∨ flagsA kind = 128 ∨ flagsA kind = 192 := by
    unfold flagsA
    repeat' split
    all_goals simp
   omega
 have h1 : flW fl v / 64 % 4 * 64 = flagsA kind := by
  rw [hk]
  unfold flW
  rcases hf with rfl | rfl | rfl | rfl
  ·split <;> decide
  ·split <;> decide
  ·split <;> decide
  ·exfalso
   have : flagsA kind = 0 ∨ flagsA kind = 64 ∨ flagsA kind = 128 ∨ flagsA kind = 192 := by
    unfold flagsA
    repeat' split
    all_goals simp
   omega
 unfold formA
 simp only
 rw [if_neg, if_neg (by rw [hb]; decide)]
 rintro (h | ⟨h, h'⟩)
 ·exact h h1
 ·rcases hp with hp | hp
  ·rw [hp] at h; cases h
  ·exact h' hp
theorem step_known {wide : Bool} {g : Gr} {fl k : Int} {all v : List UInt8} (h1 : hasN g.kinds k = false) (h2 : knownA k = true) (h3 : formA wide ⟨fl, k, all, v⟩ = 0) : stepA wide g ⟨fl, k, all, v⟩ = knwA wide { g with kinds := g.kinds ++ [k] } ⟨fl, k, all, v⟩ := by
 unfold stepA
 rw [if_neg (by rw [h1]; decide), if_pos h2, if_neg (by rw [h3]; decide)]
theorem num_b32 {m : Int} (h0 : 0 ≤ m) (h1 : m < 4294967296) : numF 4 (b32 m) = m := by
 unfold numF
 have := tk_app (b32 m) [] (k := 4) rfl
 rw [List.append_nil] at this
 rw [this.1]
 exact numL_b32 h0 h1
theorem num_one {o : Int} (h0 : 0 ≤ o) (h1 : o ≤ 2) : numF 1 [ub o] = o := by
 unfold numF
 rw [(tk_cons (ub o) []).1]
 exact ub_toNat h0 (by omega)
theorem num_two {sz : Nat} {a : List UInt8} {y m : Int} (ha : a.length = sz) (hy : (numL a : Int) = y) (h0 : 0 ≤ m) (h1 : m < 4294967296) : numF sz (a ++ b32 m) = y ∧ numSec sz (a ++ b32 m) = m := by
 have e := tk_app a (b32 m) ha
 have e2 := tk_app (b32 m) [] (k := 4) rfl
 rw [List.append_nil] at e2
 unfold numF numSec
 rw [e.1, e.2.1, e.2.2, e2.1]
 exact ⟨hy, numL_b32 h0 h1⟩
/-- The numbers of attributes are such as fit. -/
def WFA (a : At) : Prop := (0 ≤ a.next ∧ a.next < 4294967296) ∧ (0 ≤ a.aggrAS ∧ a.aggrAS < 4294967296) ∧ (0 ≤ a.aggrAddr ∧ a.aggrAddr < 4294967296) ∧ WF a.path ∧ ∀ y ∈ a.comms, 0 ≤ y ∧ y ≤ 4294967295
def opt (c : Bool) (k : Int) : List Int := if c = true then [k] else []
theorem mem_opt {c : Bool} {k y : Int} (h : y ∈ opt c k) : y = k := by
 unfold opt at h
 split at h
 ·simpa using h
 ·cases h
theorem flat_b32 (l : List Int) : l.flatMap b32 = l.flatMap (asB true) := rfl
theorem comms_put {l : List Int} (h : ∀ y ∈ l, 0 ≤ y ∧ y ≤ 4294967295) : commsA (l.flatMap b32) = l := by
 have e := numsO_put true l [] h
 unfold commsA
 rw [b32_flat, show 4 * l.length / 4 = l.length by omega, flat_b32]
 rw [List.append_nil] at e
 rw [show (4 : Nat) = szA true from rfl, e]
 simp only
 rw [show nrw true = id from by funext y; rfl, List.map_id]
theorem raws_lt {l : List RawV} (h : rawsA l = true) : ∀ (j i : Nat) (x y : RawV), i < j → l[i]? = some x → l[j]? = some y → x.2.1 < y.2.1
 | 0, i, x, y, hlt, _, _ => by omega
 | j + 1, i, x, y, hlt, hi, hj => by
  have hb := rawsA_at h hj
  have hjl := (List.getElem?_eq_some_iff.1 hj).1
  have hz : l[j]? = some l[j] := List.getElem?_eq_getElem (by omega)
  unfold badRaw prevAt at hb
  rw [if_neg (by omega), show j + 1 - 1 = j by omega, hz] at hb
  simp only [Bool.or_eq_false_iff, decide_eq_false_iff_not] at hb
  have h1 : l[j].2.1 < y.2.1 := by have := hb.2; omega
  rcases Nat.lt_or_ge i j with hij | hij
  ·have := raws_lt h j i x l[j] hij hi hz
   omega
  ·have : i = j := by omega
   subst this
   rw [hz] at hi
   injection hi with hi
   rw [← hi]
   exact h1
theorem raw_of {l : List RawV} (h : rawsA l = true) {j : Nat} {y : RawV} (hj : l[j]? = some y) : (0 ≤ y.2.1 ∧ y.2.1 ≤ 255) ∧ knownA y.2.1 = false ∧ y.1 = 224 ∧ y.2.2.length ≤ 64 := by
 have hb := rawsA_at h hj
 unfold badRaw at hb
 simp only [Bool.or_eq_false_iff, decide_eq_false_iff_not, not_or] at hb
 obtain ⟨⟨b1, b2, b3, b4, b5⟩, _⟩ := hb
 refine ⟨⟨by omega, by omega⟩, by simpa using b3, by omega, by omega⟩
theorem Lp.raws {wide : Bool} {g : Gr} {l : List RawV} {t : List UInt8} {r : Except FtA Gr} (h : rawsA l = true) (h8 : l.length ≤ 8) (hr : g.a.raws = []) (hK : ∀ y ∈ g.kinds, knownA y = true)
  (hl : Lp wide { g with a := { g.a with raws := l }, kinds := g.kinds ++ l.map (·.2.1) } t r) : ∀ (m j : Nat), j + m = l.length → Lp wide { g with a := { g.a with raws := l.take j }, kinds := g.kinds ++ (l.take j).map (·.2.1) } ((l.drop j).flatMap (fun x => attrB x.1 x.2.1 x.2.2) ++ t) r
 | 0, j, hj => by
  rw [List.take_of_length_le (by omega), List.drop_eq_nil_of_le (by omega)]
  exact hl
 | m + 1, j, hj => by
  obtain ⟨x, hx⟩ : ∃ x, l[j]? = some x := ⟨_, List.getElem?_eq_getElem (by omega)⟩
  have hjl : j < l.length := by omega
  have hxe : l[j] = x := (List.getElem?_eq_some_iff.1 hx).2
  have e : l.drop j = x :: l.drop (j + 1) := by rw [List.drop_eq_getElem_cons hjl, hxe]
  obtain ⟨hk, hu, hf, hd⟩ := raw_of h hx
  have hall : ∀ (i : Nat) (y : RawV), (l.take j)[i]? = some y → y.2.1 < x.2.1 := by
   intro i y hy
   have hi := (List.getElem?_eq_some_iff.1 hy).1
   rw [List.length_take] at hi
   rw [List.getElem?_take_of_lt (by omega)] at hy
   exact raws_lt h j i y x (by omega) hy hx
  have hmem : ∀ y ∈ g.kinds ++ (l.take j).map (·.2.1), y ≠ x.2.1 := by
   intro y hy
   rcases List.mem_append.1 hy with hy | hy
   ·intro e
    have := hK y hy
    rw [e, hu] at this
    cases this
   ·obtain ⟨z, hz, rfl⟩ := List.mem_map.1 hy
    obtain ⟨i, hi⟩ := List.getElem?_of_mem hz
    have := hall i z hi
    omega
  have hpos : rawPos (l.take j) x.2.1 = (l.take j).length := by
   unfold rawPos
   refine List.findIdx_eq_length.2 fun y hy => ?_
   obtain ⟨i, hi⟩ := List.getElem?_of_mem hy
   have := hall i y hi
   exact decide_eq_false (by omega)
  have hins : ∀ fl all, insR (l.take j) ⟨fl, x.2.1, all, x.2.2⟩ = l.take (j + 1) := by
   intro fl all
   unfold insR
   simp only
   rw [hpos, List.take_of_length_le (Nat.le_refl _), List.drop_eq_nil_of_le (Nat.le_refl _), List.append_nil, take_snoc hx]
   obtain ⟨x1, x2, x3⟩ := x
   simp only at hf
   rw [hf]
  rw [e, List.flatMap_cons, List.append_assoc]
  refine Lp.attr (.inr (.inr (.inr hf))) hk.1 hk.2 (by omega) ?_ (Lp.raws h h8 hr hK hl m (j + 1) (by omega))
  have hfl : flW x.1 x.2.2 = 224 := by unfold flW; rw [if_neg (by omega), hf]
  unfold stepA
  simp only
  rw [if_neg (by rw [hasN_false hmem]; decide), if_neg (by rw [hu]; decide), hfl]
  unfold unkA
  simp only
  rw [if_neg (by decide), if_neg (by decide), if_neg (by rw [List.length_take]; omega), hins]
  rw [take_snoc hx, List.map_append]
  simp
theorem Lp.raws0 {wide : Bool} {g : Gr} {l : List RawV} {t : List UInt8} {r : Except FtA Gr} (h : rawsA l = true) (h8 : l.length ≤ 8) (hr : g.a.raws = []) (hK : ∀ y ∈ g.kinds, knownA y = true)
  (hl : Lp wide { g with a := { g.a with raws := l }, kinds := g.kinds ++ l.map (·.2.1) } t r) : Lp wide g (l.flatMap (fun x => attrB x.1 x.2.1 x.2.2) ++ t) r := by
 have := Lp.raws h h8 hr hK hl l.length 0 (by omega)
 simp only [List.take_zero, List.map_nil, List.append_nil, List.drop_zero] at this
 obtain ⟨⟨a1, a2, a3, a4, a5, a6, a7, a8, a9, a10, a11⟩, b1, b2, b3, b4, b5⟩ := g
 simp only at hr
 subst hr
 exact this
theorem kn_le {k : Int} (h : k = 1 ∨ k = 2 ∨ k = 3 ∨ k = 4 ∨ k = 5 ∨ k = 6 ∨ k = 7 ∨ k = 8 ∨ k = 17 ∨ k = 18) : knownA k = true := by
 rcases h with rfl | rfl | rfl | rfl | rfl | rfl | rfl | rfl | rfl | rfl <;> decide
/-- The kinds that stand ahead of the raws. -/
def kndA (a : At) : List Int := [1, 2, 3] ++ opt (decide (0 ≤ a.med)) 4 ++ opt (decide (0 ≤ a.pref)) 5 ++ opt a.atomic 6 ++ opt a.hasAggr 7 ++ opt (decide (0 < a.comms.length)) 8
def M17 (wide : Bool) (a : At) : Bool := !wide && bigN (flatA a.path)
def M18 (wide : Bool) (a : At) : Bool := !wide && decide (65535 < a.aggrAS)
/-- What a reading holds behind all attributes. -/
def grPut (wide : Bool) (a : At) : Gr :=
 ⟨⟨a.origin, a.path.map (nseg wide), a.next, a.med, a.pref, a.atomic, a.hasAggr, nrw wide a.aggrAS, a.aggrAddr, a.comms, a.raws⟩,
  kndA a ++ a.raws.map (·.2.1) ++ opt (M17 wide a) 17 ++ opt (M18 wide a) 18,
  if M17 wide a = true then a.path else [], a.hasAggr, nrw wide a.aggrAS, if M18 wide a = true then b32 a.aggrAS ++ b32 a.aggrAddr else []⟩
theorem nrw_zero (wide : Bool) : nrw wide 0 = 0 := by cases wide <;> rfl
theorem loop_put {a : At} (wide : Bool) (h : rightAt a = true) (hn : nextA a.next = true) (hw : WFA a) : Lp wide zeroGr (attsB wide a) (.ok (grPut wide a)) := by
 obtain ⟨hor, hpa, hme, hpr, hag, hco, hra, hrl⟩ := rightAt_of h
 obtain ⟨hwn, hwg, hwa, hwp, hwc⟩ := hw
 have hpl := putA_len wide a.path
 have hpl2 := putA_len true a.path
 have hps := rightA_of hpa
 have hme' : -1 ≤ a.med ∧ a.med ≤ 4294967295 := of_decide_eq_true hme
 have hpr' : -1 ≤ a.pref ∧ a.pref ≤ 4294967295 := of_decide_eq_true hpr
 have E : attsB wide a = attrB 64 1 [ub a.origin] ++ (attrB 64 2 (putA wide a.path) ++ (attrB 64 3 (b32 a.next) ++ (onlyIf (decide (0 ≤ a.med)) (attrB 128 4 (b32 (a.med % 4294967296))) ++ (onlyIf (decide (0 ≤ a.pref)) (attrB 64 5 (b32 (a.pref % 4294967296))) ++ (onlyIf a.atomic (attrB 64 6 []) ++ (onlyIf a.hasAggr (attrB 192 7 (asB wide a.aggrAS ++ b32 a.aggrAddr)) ++ (onlyIf (decide (0 < a.comms.length)) (attrB 192 8 (a.comms.flatMap b32)) ++ (a.raws.flatMap (fun x => attrB x.1 x.2.1 x.2.2) ++ (onlyIf (M17 wide a) (attrB 192 17 (putA true a.path)) ++ (onlyIf (M18 wide a) (attrB 192 18 (b32 a.aggrAS ++ b32 a.aggrAddr)) ++ [])))))))))) := by
  unfold attsB M17 M18
  simp only [List.append_assoc, List.append_nil]
 rw [E]
 -- 1
 refine Lp.attr (g' := ⟨⟨a.origin, [], 0, -1, -1, false, false, 0, 0, [], []⟩, [1], [], false, 0, []⟩) (.inl rfl) (by decide) (by decide) (by simp) ?_ ?_
 ·rw [step_known (show hasN [] 1 = false by decide) (by decide) (flW_form (.inl rfl) (by decide) _ _ (by simp [badLen, lookAt, lookTbl]))]
  unfold knwA
  simp only
  rw [if_pos (by first | trivial | rfl), num_one hor.1 hor.2, if_neg (by omega)]
  rfl
 -- 2
 refine Lp.attr (g' := ⟨⟨a.origin, a.path.map (nseg wide), 0, -1, -1, false, false, 0, 0, [], []⟩, [1, 2], [], false, 0, []⟩) (.inl rfl) (by decide) (by decide) (by omega) ?_ ?_
 ·rw [step_known (show hasN [1] 2 = false by decide) (by decide) (flW_form (.inl rfl) (by decide) _ _ (by simp [badLen, lookAt, lookTbl]; omega))]
  unfold knwA
  simp only
  rw [if_neg (by decide), if_pos (by first | trivial | rfl), read_put wide hpa hwp]
  rfl
 -- 3
 refine Lp.attr (g' := ⟨⟨a.origin, a.path.map (nseg wide), a.next, -1, -1, false, false, 0, 0, [], []⟩, [1, 2, 3], [], false, 0, []⟩) (.inl rfl) (by decide) (by decide) (by simp [b32]) ?_ ?_
 ·rw [step_known (show hasN [1, 2] 3 = false by decide) (by decide) (flW_form (.inl rfl) (by decide) _ _ (by simp [badLen, lookAt, lookTbl, b32]))]
  unfold knwA
  simp only
  rw [if_neg (by decide), if_neg (by decide), if_pos (by first | trivial | rfl), num_b32 hwn.1 hwn.2, hn, if_pos rfl]
  rfl
 -- 4
 refine Lp.only (g' := ⟨⟨a.origin, a.path.map (nseg wide), a.next, a.med, -1, false, false, 0, 0, [], []⟩, [1, 2, 3] ++ opt (decide (0 ≤ a.med)) 4, [], false, 0, []⟩) (.inr (.inl rfl)) (by decide) (by decide) (fun _ => by simp [b32]) (fun hc => ?_) (fun hc => ?_) ?_
 ·rw [step_known (show hasN [1, 2, 3] 4 = false by decide) (by decide) (flW_form (.inr (.inl rfl)) (by decide) _ _ (by simp [badLen, lookAt, lookTbl, b32]))]
  have h0 : 0 ≤ a.med := of_decide_eq_true hc
  unfold knwA
  simp only
  rw [if_neg (by decide), if_neg (by decide), if_neg (by decide), if_pos (by first | trivial | rfl), num_b32 (by omega) (by omega), hc]
  simp only [opt, if_pos]
  rw [show a.med % 4294967296 = a.med by omega]
 ·have h0 : ¬ 0 ≤ a.med := of_decide_eq_false hc
  rw [hc, show a.med = -1 by omega]
  simp [opt]
 -- 5
 refine Lp.only (g' := ⟨⟨a.origin, a.path.map (nseg wide), a.next, a.med, a.pref, false, false, 0, 0, [], []⟩, [1, 2, 3] ++ opt (decide (0 ≤ a.med)) 4 ++ opt (decide (0 ≤ a.pref)) 5, [], false, 0, []⟩) (.inl rfl) (by decide) (by decide) (fun _ => by simp [b32]) (fun hc => ?_) (fun hc => ?_) ?_
 ·rw [step_known (hasN_false (by
   intro y hy
   simp only [List.mem_append] at hy
   rcases hy with hy | hy
   ·simp at hy; omega
   ·have := mem_opt hy; omega)) (by decide) (flW_form (.inl rfl) (by decide) _ _ (by simp [badLen, lookAt, lookTbl, b32]))]
  have h0 : 0 ≤ a.pref := of_decide_eq_true hc
  unfold knwA
  simp only
  rw [if_neg (by decide), if_neg (by decide), if_neg (by decide), if_neg (by decide), if_pos (by first | trivial | rfl), num_b32 (by omega) (by omega), hc]
  simp only [opt, if_pos]
  rw [show a.pref % 4294967296 = a.pref by omega]
 ·have h0 : ¬ 0 ≤ a.pref := of_decide_eq_false hc
  rw [hc, show a.pref = -1 by omega]
  simp [opt]
 -- 6
 refine Lp.only (g' := ⟨⟨a.origin, a.path.map (nseg wide), a.next, a.med, a.pref, a.atomic, false, 0, 0, [], []⟩, [1, 2, 3] ++ opt (decide (0 ≤ a.med)) 4 ++ opt (decide (0 ≤ a.pref)) 5 ++ opt a.atomic 6, [], false, 0, []⟩) (.inl rfl) (by decide) (by decide) (fun _ => by simp) (fun hc => ?_) (fun hc => ?_) ?_
 ·rw [step_known (hasN_false (by
   intro y hy
   simp only [List.mem_append] at hy
   rcases hy with (hy | hy) | hy
   ·simp at hy; omega
   ·have := mem_opt hy; omega
   ·have := mem_opt hy; omega)) (by decide) (flW_form (.inl rfl) (by decide) _ _ (by simp [badLen, lookAt, lookTbl]))]
  unfold knwA
  simp only
  rw [if_neg (by decide), if_neg (by decide), if_neg (by decide), if_neg (by decide), if_neg (by decide), if_pos (by first | trivial | rfl), hc]
  simp only [opt, if_pos]
 ·rw [hc]
  simp [opt]
 -- 7
 refine Lp.only (g' := ⟨⟨a.origin, a.path.map (nseg wide), a.next, a.med, a.pref, a.atomic, a.hasAggr, nrw wide a.aggrAS, a.aggrAddr, [], []⟩, [1, 2, 3] ++ opt (decide (0 ≤ a.med)) 4 ++ opt (decide (0 ≤ a.pref)) 5 ++ opt a.atomic 6 ++ opt a.hasAggr 7, [], a.hasAggr, nrw wide a.aggrAS, []⟩) (.inr (.inr (.inl rfl))) (by decide) (by decide) (fun _ => by rw [List.length_append, asB_sz, b32_len]; cases wide <;> decide) (fun hc => ?_) (fun hc => ?_) ?_
 ·have hlen : (asB wide a.aggrAS ++ b32 a.aggrAddr).length = szA wide + 4 := by rw [List.length_append, asB_sz, b32_len]
  rw [step_known (hasN_false (by
   intro y hy
   simp only [List.mem_append] at hy
   rcases hy with ((hy | hy) | hy) | hy
   ·simp at hy; omega
   ·have := mem_opt hy; omega
   ·have := mem_opt hy; omega
   ·have := mem_opt hy; omega)) (by decide) (flW_form (.inr (.inr (.inl rfl))) (by decide) _ _ (by rw [hlen]; cases wide <;> decide))]
  obtain ⟨e1, e2⟩ := num_two (asB_sz wide a.aggrAS) (asB_num wide (y := a.aggrAS) (by omega) (by omega)) hwa.1 hwa.2
  unfold knwA
  simp only
  rw [if_neg (by decide), if_neg (by decide), if_neg (by decide), if_neg (by decide), if_neg (by decide), if_neg (by decide), if_pos (by first | trivial | rfl), e1, e2, hc]
  simp only [opt, if_pos]
 ·rcases hag with hag | ⟨g1, g2⟩
  ·rw [hag] at hc; cases hc
  ·rw [hc, g1, g2, nrw_zero]
   simp [opt]
 -- 8
 refine Lp.only (g' := ⟨⟨a.origin, a.path.map (nseg wide), a.next, a.med, a.pref, a.atomic, a.hasAggr, nrw wide a.aggrAS, a.aggrAddr, a.comms, []⟩, kndA a, [], a.hasAggr, nrw wide a.aggrAS, []⟩) (.inr (.inr (.inl rfl))) (by decide) (by decide) (fun _ => by rw [b32_flat]; omega) (fun hc => ?_) (fun hc => ?_) ?_
 ·rw [step_known (hasN_false (by
   intro y hy
   simp only [List.mem_append] at hy
   rcases hy with (((hy | hy) | hy) | hy) | hy
   ·simp at hy; omega
   ·have := mem_opt hy; omega
   ·have := mem_opt hy; omega
   ·have := mem_opt hy; omega
   ·have := mem_opt hy; omega)) (by decide) (flW_form (.inr (.inr (.inl rfl))) (by decide) _ _ (by unfold badLen; rw [if_neg (by decide), if_pos rfl, b32_flat]; exact decide_eq_false (by omega)))]
  unfold knwA
  simp only
  rw [if_neg (by decide), if_neg (by decide), if_neg (by decide), if_neg (by decide), if_neg (by decide), if_neg (by decide), if_neg (by decide), if_pos (by first | trivial | rfl), if_neg (by rw [b32_flat]; omega), comms_put hwc]
  unfold kndA
  rw [hc]
  simp only [opt, if_pos, List.nil_append]
 ·have h0 : ¬ 0 < a.comms.length := of_decide_eq_false hc
  have h1 : a.comms = [] := List.eq_nil_of_length_eq_zero (by omega)
  unfold kndA
  rw [h1]
  simp [opt]
 -- raws
 have hK : ∀ y ∈ kndA a, knownA y = true ∧ y ≤ 8 := by
  intro y hy
  unfold kndA at hy
  simp only [List.mem_append] at hy
  have : y = 1 ∨ y = 2 ∨ y = 3 ∨ y = 4 ∨ y = 5 ∨ y = 6 ∨ y = 7 ∨ y = 8 := by
   rcases hy with ((((hy | hy) | hy) | hy) | hy) | hy
   ·simp at hy; omega
   ·have := mem_opt hy; omega
   ·have := mem_opt hy; omega
   ·have := mem_opt hy; omega
   ·have := mem_opt hy; omega
   ·have := mem_opt hy; omega
  exact ⟨kn_le (by omega), by omega⟩
 refine Lp.raws0 (g := ⟨⟨a.origin, a.path.map (nseg wide), a.next, a.med, a.pref, a.atomic, a.hasAggr, nrw wide a.aggrAS, a.aggrAddr, a.comms, []⟩, kndA a, [], a.hasAggr, nrw wide a.aggrAS, []⟩) hra hrl rfl (fun y hy => (hK y hy).1) ?_
 simp only
 have hR : ∀ y ∈ a.raws.map (·.2.1), knownA y = false := by
  intro y hy
  obtain ⟨z, hz, rfl⟩ := List.mem_map.1 hy
  obtain ⟨i, hi⟩ := List.getElem?_of_mem hz
  exact (raw_of hra hi).2.1
 -- 17
 refine Lp.only (g' := ⟨⟨a.origin, a.path.map (nseg wide), a.next, a.med, a.pref, a.atomic, a.hasAggr, nrw wide a.aggrAS, a.aggrAddr, a.comms, a.raws⟩, kndA a ++ a.raws.map (·.2.1) ++ opt (M17 wide a) 17, if M17 wide a = true then a.path else [], a.hasAggr, nrw wide a.aggrAS, []⟩) (.inr (.inr (.inl rfl))) (by decide) (by decide) (fun _ => by omega) (fun hc => ?_) (fun hc => ?_) ?_
 ·rw [step_known (hasN_false (by
   intro y hy
   rcases List.mem_append.1 hy with hy | hy
   ·have := (hK y hy).2; omega
   ·intro e
    have := hR y hy
    rw [e] at this
    exact absurd this (by decide))) (by decide) (flW_form (.inr (.inr (.inl rfl))) (by decide) _ _ (by simp [badLen, lookAt, lookTbl]; omega))]
  unfold knwA
  simp only
  rw [if_neg (by decide), if_neg (by decide), if_neg (by decide), if_neg (by decide), if_neg (by decide), if_neg (by decide), if_neg (by decide), if_neg (by decide), if_pos (by first | trivial | rfl), read_put true hpa hwp, nseg_wide, hc]
  simp only [opt, if_pos, Option.getD_some]
 ·rw [hc]
  simp [opt]
 -- 18
 refine Lp.only (g' := grPut wide a) (.inr (.inr (.inl rfl))) (by decide) (by decide) (fun _ => by simp [b32]) (fun hc => ?_) (fun hc => ?_) (Lp.nil _ _)
 ·rw [step_known (hasN_false (by
   intro y hy
   rcases List.mem_append.1 hy with hy | hy
   ·rcases List.mem_append.1 hy with hy | hy
    ·have := (hK y hy).2; omega
    ·intro e
     have := hR y hy
     rw [e] at this
     exact absurd this (by decide)
   ·have := mem_opt hy; omega)) (by decide) (flW_form (.inr (.inr (.inl rfl))) (by decide) _ _ (by simp [badLen, lookAt, lookTbl, b32]))]
  unfold knwA
  simp only
  rw [if_neg (by decide), if_neg (by decide), if_neg (by decide), if_neg (by decide), if_neg (by decide), if_neg (by decide), if_neg (by decide), if_neg (by decide), if_neg (by decide), if_pos (by first | trivial | rfl), if_pos (by simp [b32])]
  unfold grPut
  rw [hc]
  simp only [opt, if_pos]
 ·unfold grPut
  rw [hc]
  simp [opt]
theorem readAt_put {a : At} (wide : Bool) (h : rightAt a = true) (hn : nextA a.next = true) (hw : WFA a) : readAt (attsB wide a) wide = .ok (endA wide (grPut wide a), (grPut wide a).kinds) := by
 unfold readAt
 rw [loop_put wide h hn hw _ (Nat.le_refl _)]
/-- Put wide, attributes are read as they were. -/
theorem read_wide {a : At} (h : rightAt a = true) (hn : nextA a.next = true) (hw : WFA a) : readAt (attsB true a) true = .ok (a, (grPut true a).kinds) := by
 rw [readAt_put true h hn hw]
 unfold endA
 rw [if_pos (.inl rfl)]
 unfold grPut
 simp only
 rw [nseg_wide]
 rfl
theorem onlyIf_len (b : Bool) (l : List UInt8) : (onlyIf b l).length ≤ l.length := by unfold onlyIf; split <;> simp
theorem raws_len : ∀ (l : List RawV), (∀ x ∈ l, x.2.2.length ≤ 64) → (l.flatMap (fun x => attrB x.1 x.2.1 x.2.2)).length ≤ 68 * l.length
 | [], _ => by simp
 | x :: l, h => by
  have h1 := attrB_len x.1 x.2.1 x.2.2
  have h2 := h x (by simp)
  have h3 := raws_len l (fun y hy => h y (by simp [hy]))
  rw [List.flatMap_cons, List.length_append, List.length_cons]
  omega
theorem attsB_len {a : At} (wide : Bool) (h : rightAt a = true) : (attsB wide a).length ≤ 5000 := by
 obtain ⟨hor, hpa, hme, hpr, hag, hco, hra, hrl⟩ := rightAt_of h
 have hps := rightA_of hpa
 have p1 := putA_len wide a.path
 have p2 := putA_len true a.path
 have a1 := attrB_len 64 1 [ub a.origin]
 have a2 := attrB_len 64 2 (putA wide a.path)
 have a3 := attrB_len 64 3 (b32 a.next)
 have a4 := Nat.le_trans (onlyIf_len (decide (0 ≤ a.med)) _) (attrB_len 128 4 (b32 (a.med % 4294967296)))
 have a5 := Nat.le_trans (onlyIf_len (decide (0 ≤ a.pref)) _) (attrB_len 64 5 (b32 (a.pref % 4294967296)))
 have a6 := Nat.le_trans (onlyIf_len a.atomic _) (attrB_len 64 6 [])
 have a7 := Nat.le_trans (onlyIf_len a.hasAggr _) (attrB_len 192 7 (asB wide a.aggrAS ++ b32 a.aggrAddr))
 have a8 := Nat.le_trans (onlyIf_len (decide (0 < a.comms.length)) _) (attrB_len 192 8 (a.comms.flatMap b32))
 have a9 := raws_len a.raws (fun x hx => by
  obtain ⟨i, hi⟩ := List.getElem?_of_mem hx
  exact (raw_of hra hi).2.2.2)
 have a10 := Nat.le_trans (onlyIf_len (!wide && bigN (flatA a.path)) _) (attrB_len 192 17 (putA true a.path))
 have a11 := Nat.le_trans (onlyIf_len (!wide && decide (65535 < a.aggrAS)) _) (attrB_len 192 18 (b32 a.aggrAS ++ b32 a.aggrAddr))
 have l7 := asB_len wide a.aggrAS
 rw [b32_flat] at a8
 rw [List.length_append, b32_len] at a7
 rw [List.length_append, b32_len, b32_len] at a11
 rw [b32_len] at a3 a4 a5
 simp only [List.length_cons, List.length_nil] at a1 a6
 unfold attsB
 simp only [List.length_append]
 omega
theorem DL.wfA {w : World} {S : Nat → Prop} {A : Option Addr} {n : Nat} {l : List Seg} (h : DL rSeg 2 w S A n l) : WF l := by
 intro x hx y hy
 obtain ⟨i, hi⟩ := List.getElem?_of_mem hx
 obtain ⟨b, off, A', n', c', _, _, _, _, hnf, _⟩ := h.segAt hi
 obtain ⟨j, hj⟩ := List.getElem?_of_mem hy
 exact hnf.wf_ hj
theorem NF.wfB {w : World} {S : Nat → Prop} {A : Option Addr} {n : Nat} {l : List Int} (h : NF w S A n l) : ∀ y ∈ l, 0 ≤ y ∧ y ≤ 4294967295 := by
 intro y hy
 obtain ⟨j, hj⟩ := List.getElem?_of_mem hy
 exact h.wf_ hj
def exAt : At := ⟨0, [], 167772161, -1, -1, false, false, 0, 0, [], []⟩
def exB04 : List UInt8 := attsB true exAt
end Go.Proofs.YthgjknmfghjioaaGreatDoor
