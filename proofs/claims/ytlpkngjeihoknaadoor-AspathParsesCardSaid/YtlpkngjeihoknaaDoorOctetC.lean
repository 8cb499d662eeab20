/- Walks of layer 1 (octet): a number's text. Conditions: the table of digits (DigTab). -/
import Derived.Test.YtlpkngjeihoknaaDoorProg
import Derived.WalkKit
import Derived.WalkSpells
import Derived.WalkLawsBesides
import Derived.Outline
import Derived.Deep.QuietTactic
import Derived.BigQuiet
import Derived.Handy
import Derived.Lib.Hide
import Derived.Deep.MidRow
import Derived.Test.YtlpkngjeihoknaaDoorOctetB
namespace Go.Proofs.YtlpkngjeihoknaaDoor
open Go.RowKit
theorem setCell_id {w : World} {a : Addr} {v : Value} (h : w.cell? a = some v) : w.setCell a v = w := by
  obtain ⟨heap, tape, drawn, os, output⟩ := w
  simp only [World.setCell, World.mk.injEq, and_true]
  unfold World.cell? at h
  simp only at h
  apply Array.ext
  · simp
  · intro i h1 h2
    rw [Array.getElem_modify]
    split
    · rename_i hi
      subst hi
      rw [Array.getElem?_eq_getElem h2] at h
      split at h
      · rename_i c t fr he
        injection he with he
        rw [he]
        split at h
        · cases h
        · rename_i hs
          simp only [hs, if_false, Bool.false_eq_true]
          congr 1
          apply Array.ext
          · simp
          · intro j g1 g2
            rw [Array.getElem_setIfInBounds]
            split
            · rename_i hj
              subst hj
              rw [Array.getElem?_eq_getElem g2] at h
              injection h with h
              exact h.symm
            · rfl
      · cases h
    · rfl
theorem setCells_id (b : Nat) (w : World) : ∀ (vs : List Value) (o : Nat), (∀ j v, vs[j]? = some v → w.cell? ⟨b, o + j, none⟩ = some v) → w.setCells b o vs = w
  | [], _, _ => rfl
  | v :: r, o, h => by
    simp only [World.setCells]
    rw [setCell_id (show w.cell? ⟨b, o, none⟩ = some v from h 0 v rfl)]
    refine setCells_id b w r (o + 1) fun j u hu => ?_
    have := h (j + 1) u hu
    rw [show o + 1 + j = o + (j + 1) by omega]
    exact this
theorem setCells_new (w : World) (Z : Array Value) (T : Nat) : (w.alloc (.cells Z T)).setCells w.heap.size 0 Z.toList = w.alloc (.cells Z T) :=
  setCells_id _ _ _ _ fun j v hv => by
    rw [(Blk.new w T Z).cell]
    simpa using hv
theorem there_new (w : World) (Z : Array Value) (T : Nat) : (w.alloc (.cells Z T)).there w.heap.size 0 Z.size := fun j hj => by
  rw [(Blk.new w T Z).cell, (Blk.new w T Z).frozen]
  simp; exact hj
/-- An operation whose run is known. -/
theorem wpl_val {P : Program} {ops : Array Oper} {rest : List Oper} {o : Oper} {a : Act} {w w' : World} {Q : Exit → Act → World → Prop} (hgd : o.guard = none) (v : Value) (hrun : (execOp a.eval o).run P w = .ok (.value v) w')
    (h : wpList P ops Q rest (a.put o.dst v) w') : wpList P ops Q (o :: rest) a w :=
  wpList_plain hgd fun _ hK => by
    unfold Oper.wp
    rw [hrun]
    exact hK _ _ h
/-- 'var x [n]T': the row is built, laid and stored. -/
theorem wpl_newArr {P : Program} {ops : Array Oper} {rest : List Oper} {o1 o2 o3 : Oper} {a : Act} {w : World} {Q : Exit → Act → World → Prop} (T d1 d2 : Nat) (Z : Array Value)
    (g1 : o1.guard = none) (g2 : o2.guard = none) (g3 : o3.guard = none) (e1 : o1.dst = some d1) (e2 : o2.dst = some d2) (e3 : o3.op = .store T (.tmp d2) (.tmp d1))
    (h1 : (execOp a.eval o1).run P w = .ok (.value (.agg Z)) w) (h2 : (execOp (a.put (some d1) (.agg Z)).eval o2).run P w = .ok (.value (.pointer (some ⟨w.heap.size, 0, none⟩))) (w.alloc (.cells Z T)))
    (hx : ((a.put (some d1) (.agg Z)).put (some d2) (.pointer (some ⟨w.heap.size, 0, none⟩))).eval (.tmp d2) = .pointer (some ⟨w.heap.size, 0, none⟩))
    (hy : ((a.put (some d1) (.agg Z)).put (some d2) (.pointer (some ⟨w.heap.size, 0, none⟩))).eval (.tmp d1) = .agg Z)
    (hi : (P.info? T).map (·.size) = some Z.size) (hone : Z.all (·.oneCell') = true)
    (h : wpList P ops Q rest (((a.put (some d1) (.agg Z)).put (some d2) (.pointer (some ⟨w.heap.size, 0, none⟩))).put o3.dst undef) (w.alloc (.cells Z T))) :
    wpList P ops Q (o1 :: o2 :: o3 :: rest) a w := by
  refine wpl_val g1 (.agg Z) h1 ?_
  rw [e1]
  refine wpl_val g2 _ h2 ?_
  rw [e2]
  refine wpList_store_mid g3 T (.tmp d2) (.tmp d1) e3 w.heap.size 0 Z hx hy (there_new w Z T) hi hone ?_
  rw [setCells_new]
  exact h
def zero20 : Array Value := #[.int .u8 0, .int .u8 0, .int .u8 0, .int .u8 0, .int .u8 0, .int .u8 0, .int .u8 0, .int .u8 0, .int .u8 0, .int .u8 0, .int .u8 0, .int .u8 0, .int .u8 0, .int .u8 0, .int .u8 0, .int .u8 0, .int .u8 0, .int .u8 0, .int .u8 0, .int .u8 0]
theorem text_build (e : Operand → Value) (w : World) (ty : TypeId) (pos : String) (aft : Array Edge) (g : Option (Nat × Bool)) : (execOp e ⟨some 12, .build 124 #[], ty, pos, aft, g⟩).run Tryd.prog w = .ok (.value (.agg zero20)) w := by kernel_rfl
theorem text_alloc (e : Operand → Value) (w : World) (ty : TypeId) (pos : String) (aft : Array Edge) (g : Option (Nat × Bool)) : (execOp e ⟨some 4, .alloc 124, ty, pos, aft, g⟩).run Tryd.prog w = .ok (.value (.pointer (some ⟨w.heap.size, 0, none⟩))) (w.alloc (.cells zero20 124)) := by kernel_rfl
/-- What holds at the head of Text's loop: L is written at the row's end, r is still to be written. -/
def TxtInv (w wr : World) (G U r j : Nat) (L : List UInt8) : Prop :=
  DecAt U r L ∧ j + L.length = 19 ∧ r < 18446744073709551616 ∧ Below G w wr ∧ ∃ cs : Array Value, Blk wr G 124 cs ∧ cs.size = 20 ∧ cs.toList.drop (j + 1) = bv L
theorem TxtInv.next {w wr : World} {G U r j : Nat} {L : List UInt8} (h : TxtInv w wr G U r j L) (hr : ¬ r < 10) (hU : U < 10 ^ 20) :
    ∃ j', j = j' + 1 ∧ TxtInv w (wr.setCell ⟨G, j, none⟩ (.int .u8 ((dg (r % 10)).toNat : Int))) G U (r / 10) j' (dg (r % 10) :: L) := by
  obtain ⟨h1, h2, h3, h4, cs, h5, h6, h7⟩ := h
  have h8 := (h1.step hr).len hU
  simp only [List.length_cons] at h8
  refine ⟨j - 1, by omega, h1.step hr, by simp only [List.length_cons]; omega, by omega, h4.setCell (by simp) _, _, h5.set_ j _, by simpa using h6, ?_⟩
  have hj : j - 1 + 1 = j := by omega
  have hlt : j < cs.toList.length := by simp; omega
  rw [hj, Array.toList_setIfInBounds, List.drop_eq_getElem_cons (by rw [List.length_set]; exact hlt), List.getElem_set_self, List.drop_set_of_lt (by omega), h7]
  rfl
theorem TxtInv.done {w wr : World} {G U r j : Nat} {L : List UInt8} (h : TxtInv w wr G U r j L) (hr : r < 10) :
    decU U = dg r :: L ∧ Below G w (wr.setCell ⟨G, j, none⟩ (.int .u8 ((dg (r % 10)).toNat : Int))) ∧
      BS (wr.setCell ⟨G, j, none⟩ (.int .u8 ((dg (r % 10)).toNat : Int))) (G + 1) (some ⟨G, j, none⟩) (20 - j) (decU U) := by
  obtain ⟨h1, h2, h3, h4, cs, h5, h6, h7⟩ := h
  have e := h1.last hr
  have er : r % 10 = r := Nat.mod_eq_of_lt hr
  have hlt : j < cs.toList.length := by simp; omega
  refine ⟨e, h4.setCell (by simp) _, by rw [e, List.length_cons]; omega, by rw [bv_length, e, List.length_cons]; omega, fun _ => ⟨_, rfl, by simp, fun k u hu => ?_⟩⟩
  have hb := h5.set_ j (.int .u8 ((dg (r % 10)).toNat : Int))
  have hc := hb.cell (j + k)
  have ha : (⟨G, j, none⟩ : Addr).add k = ⟨G, j + k, none⟩ := by unfold Addr.add; split <;> simp_all
  rw [ha, hc]
  have hd : (cs.setIfInBounds j (.int .u8 ((dg (r % 10)).toNat : Int))).toList.drop j = bv (decU U) := by
    rw [Array.toList_setIfInBounds, List.drop_eq_getElem_cons (by rw [List.length_set]; exact hlt), List.getElem_set_self, List.drop_set_of_lt (by omega), h7, e, er]
    rfl
  rw [← hd, List.getElem?_drop] at hu
  rw [← hu, Array.getElem?_toList]
theorem sl20 (g j : Nat) (hj : j < 20) (W : World) : (Instr.sliceAt 124 (.pointer (some ⟨g, 0, none⟩)) (some (.int .i64 j)) none none).run Tryd.prog W = .ok (.slice (some ⟨g, j, none⟩) (20 - j) (20 - j)) W := by
  have : j = 0 ∨ j = 1 ∨ j = 2 ∨ j = 3 ∨ j = 4 ∨ j = 5 ∨ j = 6 ∨ j = 7 ∨ j = 8 ∨ j = 9 ∨ j = 10 ∨ j = 11 ∨ j = 12 ∨ j = 13 ∨ j = 14 ∨ j = 15 ∨ j = 16 ∨ j = 17 ∨ j = 18 ∨ j = 19 := by omega
  rcases this with rfl | rfl | rfl | rfl | rfl | rfl | rfl | rfl | rfl | rfl | rfl | rfl | rfl | rfl | rfl | rfl | rfl | rfl | rfl | rfl
  all_goals (show _ = _; kernel_rfl)
theorem TxtInv.first (w : World) (U : Nat) (hU : U < 18446744073709551616) : TxtInv w (w.alloc (.cells zero20 124)) w.heap.size U U 19 [] :=
  ⟨DecAt.start U, rfl, hU, (Below.refl _ _).alloc (Nat.le_refl _) _, zero20, Blk.new _ _ _, rfl, rfl⟩
theorem TxtInv.cell {w wr : World} {G U r j : Nat} {L : List UInt8} (h : TxtInv w wr G U r j L) : ∃ v, wr.cell? ⟨G, j, none⟩ = some v := by
  obtain ⟨_, h2, _, _, cs, h5, h6, _⟩ := h
  rw [h5.cell]
  exact ⟨_, Array.getElem?_eq_getElem (by omega)⟩
theorem TxtInv.free {w wr : World} {G U r j : Nat} {L : List UInt8} (h : TxtInv w wr G U r j L) : wr.frozen? ⟨G, j, none⟩ = false := by
  obtain ⟨_, _, _, _, cs, h5, _, _⟩ := h
  exact h5.frozen j
set_option maxHeartbeats 2000000 in
set_option maxRecDepth 100000 in
theorem octetText_nat (U : Nat) (S : ByteArray) (w : World) (ht : DigTab w) (hU : U < 10 ^ 20) (hU2 : U < 18446744073709551616) (hu : IntKind.u64.wrap (U : Int) = U) (hS : Hid (S = ⟨(decU U).toArray⟩)) :
    Calls Tryd.prog 61 #[.int .i64 U] w fun en w' => en = .returned (.string S) ∧ Below w.heap.size w w' := by
  have HU := Lib.hid hU
  have HU2 := Lib.hid hU2
  clear hU hU2
  obtain ⟨Z, hZ⟩ : ∃ Z, Z = zero20 := ⟨_, rfl⟩
  have hb := text_build
  have ha := text_alloc
  have hi : (Tryd.prog.info? 124).map (·.size) = some zero20.size := by kernel_rfl
  have hone : zero20.all (·.oneCell') = true := by kernel_rfl
  have HI := Lib.hid (TxtInv.first w U HU2.out)
  rw [← hZ] at hb ha hi hone HI
  have HB := Lib.hid hb
  have HA := Lib.hid ha
  have HC := Lib.hid hi
  have HO := Lib.hid hone
  clear hZ hb ha hi hone
  go_enter Tryd.func61, Tryd.ntmps61
  go_wp2_with (with_reducible refine wpl_newArr 124 12 4 Z rfl rfl rfl rfl rfl rfl (HB.out _ _ _ _ _ _) (HA.out _ _ _ _ _ _) rfl rfl HC.out HO.out ?_)
  go_loopw [3, 5] (fun u i wr => ∃ (j r : Nat) (L : List UInt8), u = .int .u64 r ∧ i = .int .i64 ((j + 1 : Nat) : Int) ∧ TxtInv w wr w.heap.size U r j L) (fun _ i _ => (intOf i).toNat)
  case atStart => exact ⟨19, U, [], rfl, rfl, HI.out⟩
  case round =>
    obtain ⟨j, r, L, rfl, rfl, hinv⟩ := hrel
    have hj19 : j + L.length = 19 := hinv.2.1
    have hr64 : r < 18446744073709551616 := hinv.2.2.1
    have hwq : IntKind.u64.wrap ((r : Int) / 10) = (r : Int) / 10 := IntWalk.u64_in _ ⟨by omega, by omega⟩
    have hbw : Below w.heap.size w wr := hinv.2.2.2.1
    have hj : j < 20 := by omega
    obtain ⟨v0, hc0⟩ := hinv.cell
    have hf0 := hinv.free
    have hd := (ht.call hbw).at_ (r % 10) (by omega)
    have HINV := Lib.hid hinv
    clear hinv hr64 hj19
    by_cases hr : r < 10
    · have hq : ((r : Int) / 10 == 0) = true := beq_iff_eq.2 (by omega)
      obtain ⟨_, hbw', hbs⟩ := HINV.out.done hr
      have hconv := hbs.conv (P := Tryd.prog) 40 9 5 (20 - j) Tryd.underlying40 Tryd.underlying5 Tryd.underlying9
      have hsl := fun W => sl20 w.heap.size j hj W
      rw [← hS.out] at hconv
      obtain ⟨m, hm⟩ : ∃ m, 20 - j = m := ⟨_, rfl⟩
      rw [hm] at hconv hsl
      clear hm hbs
      go_wp2_with fail
      go_ret
      exact ⟨rfl, hbw'⟩
    · have hq : ((r : Int) / 10 == 0) = false := beq_eq_false_iff_ne.2 (by omega)
      obtain ⟨j', hjj, hnext⟩ := HINV.out.next hr HU.out
      have HN := Lib.hid hnext
      subst hjj
      clear hnext
      go_wp2_with fail
      go_roundw
      case rel => exact ⟨j', r / 10, dg (r % 10) :: L, by go_num, by go_num, HN.out⟩
      case measure => simp [intOf]; omega
set_option maxHeartbeats 2000000 in
set_option maxRecDepth 100000 in
theorem octetText_neg (U : Nat) (V : Int) (S S2 : ByteArray) (w : World) (ht : DigTab w) (hU : U < 10 ^ 20) (hU2 : U < 18446744073709551616) (hU1 : 1 ≤ U) (hu : IntKind.u64.wrap (-(U : Int)) = V) (hu2 : IntKind.u64.wrap (-V) = U) (hS : Hid (S = ⟨(decU U).toArray⟩)) (hsz : S.size ≤ 100) (hS2 : Hid ((⟨#[45]⟩ : ByteArray) ++ S = S2)) :
    Calls Tryd.prog 61 #[.int .i64 (-(U : Int))] w fun en w' => en = .returned (.string S2) ∧ Below w.heap.size w w' := by
  have HU := Lib.hid hU
  have HU2 := Lib.hid hU2
  clear hU hU2
  obtain ⟨Z, hZ⟩ : ∃ Z, Z = zero20 := ⟨_, rfl⟩
  have hb := text_build
  have ha := text_alloc
  have hi : (Tryd.prog.info? 124).map (·.size) = some zero20.size := by kernel_rfl
  have hone : zero20.all (·.oneCell') = true := by kernel_rfl
  have HI := Lib.hid (TxtInv.first w U HU2.out)
  rw [← hZ] at hb ha hi hone HI
  have HB := Lib.hid hb
  have HA := Lib.hid ha
  have HC := Lib.hid hi
  have HO := Lib.hid hone
  clear hZ hb ha hi hone
  go_enter Tryd.func61, Tryd.ntmps61
  go_wp2_with (with_reducible refine wpl_newArr 124 12 4 Z rfl rfl rfl rfl rfl rfl (HB.out _ _ _ _ _ _) (HA.out _ _ _ _ _ _) rfl rfl HC.out HO.out ?_)
  go_loopw [3, 5] (fun u i wr => ∃ (j r : Nat) (L : List UInt8), u = .int .u64 r ∧ i = .int .i64 ((j + 1 : Nat) : Int) ∧ TxtInv w wr w.heap.size U r j L) (fun _ i _ => (intOf i).toNat)
  case atStart => exact ⟨19, U, [], rfl, rfl, HI.out⟩
  case round =>
    obtain ⟨j, r, L, rfl, rfl, hinv⟩ := hrel
    have hj19 : j + L.length = 19 := hinv.2.1
    have hr64 : r < 18446744073709551616 := hinv.2.2.1
    have hwq : IntKind.u64.wrap ((r : Int) / 10) = (r : Int) / 10 := IntWalk.u64_in _ ⟨by omega, by omega⟩
    have hbw : Below w.heap.size w wr := hinv.2.2.2.1
    have hj : j < 20 := by omega
    obtain ⟨v0, hc0⟩ := hinv.cell
    have hf0 := hinv.free
    have hd := (ht.call hbw).at_ (r % 10) (by omega)
    have HINV := Lib.hid hinv
    clear hinv hr64 hj19
    by_cases hr : r < 10
    · have hq : ((r : Int) / 10 == 0) = true := beq_iff_eq.2 (by omega)
      obtain ⟨_, hbw', hbs⟩ := HINV.out.done hr
      have hconv := hbs.conv (P := Tryd.prog) 40 9 5 (20 - j) Tryd.underlying40 Tryd.underlying5 Tryd.underlying9
      have hsl := fun W => sl20 w.heap.size j hj W
      rw [← hS.out] at hconv
      obtain ⟨m, hm⟩ : ∃ m, 20 - j = m := ⟨_, rfl⟩
      rw [hm] at hconv hsl
      clear hm hbs
      go_wp2_with fail
      go_ret
      exact ⟨ret_s hS2.out, hbw'⟩
    · have hq : ((r : Int) / 10 == 0) = false := beq_eq_false_iff_ne.2 (by omega)
      obtain ⟨j', hjj, hnext⟩ := HINV.out.next hr HU.out
      have HN := Lib.hid hnext
      subst hjj
      clear hnext
      go_wp2_with fail
      go_roundw
      case rel => exact ⟨j', r / 10, dg (r % 10) :: L, by go_num, by go_num, HN.out⟩
      case measure => simp [intOf]; omega
theorem decU_size (U : Nat) (h : U < 10 ^ 20) : (⟨(decU U).toArray⟩ : ByteArray).size ≤ 100 := by
  have := decU_len 19 U h
  have e : (⟨(decU U).toArray⟩ : ByteArray).size = (decU U).length := rfl
  omega
/-- octet.Text, of any number. -/
theorem octetText (n : Int) (S : ByteArray) (w : World) (ht : DigTab w) (h0 : -9223372036854775808 ≤ n) (h1 : n ≤ 9223372036854775807) (hS : Hid (S = ⟨(decI n).toArray⟩)) :
    Calls Tryd.prog 61 #[.int .i64 n] w fun en w' => en = .returned (.string S) ∧ Below w.heap.size w w' := by
  by_cases hn : 0 ≤ n
  · obtain ⟨U, rfl⟩ := Int.eq_ofNat_of_zero_le hn
    have e : decI (U : Int) = decU U := by unfold decI; rw [if_neg (by omega)]; rfl
    have hS' : Hid (S = ⟨(decU U).toArray⟩) := by rw [← e]; exact hS
    exact octetText_nat U S w ht (by omega) (by omega) (IntWalk.u64_in _ ⟨by omega, by omega⟩) hS'
  · obtain ⟨U, hU⟩ : ∃ U : Nat, -n = (U : Int) := Int.eq_ofNat_of_zero_le (by omega)
    obtain rfl : n = -(U : Int) := by omega
    have e : decI (-(U : Int)) = 45 :: decU U := by unfold decI; rw [if_pos (by omega), Int.natAbs_neg]; rfl
    have h2 : Hid ((⟨#[45]⟩ : ByteArray) ++ ⟨(decU U).toArray⟩ = S) := Lib.hid (by
      rw [hS.out, e]
      apply ByteArray.ext
      rw [ByteArray.data_append]
      simp)
    exact octetText_neg U ((18446744073709551616 : Int) - U) ⟨(decU U).toArray⟩ S w ht (by omega) (by omega) (by omega) (by rw [IntKind.wrap_u64]; omega) (by rw [IntKind.wrap_u64]; omega) (Lib.hid rfl) (decU_size U (by omega)) h2
end Go.Proofs.YtlpkngjeihoknaaDoor
