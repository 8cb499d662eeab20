/- Walks of layer 2 (prefix): Parse, and the document's. Conditions: the table of digits (DigTab). -/
import Derived.Test.YtnhkpnohadbcdaaDoorProg
import Derived.WalkKit
import Derived.WalkSpells
import Derived.WalkLawsBesides
import Derived.Outline
import Derived.Deep.QuietTactic
import Derived.BigQuiet
import Derived.Handy
import Derived.Lib.Hide
import Derived.Lib.Strings
import Derived.Test.YtnhkpnohadbcdaaDoorPfxP
namespace Go.Proofs.YtnhkpnohadbcdaaDoor
open Go.RowKit
theorem decode_span (s : ByteArray) (pos : Nat) (h : pos < s.size) (ha : 128 ≤ (s[pos]'h).toNat) : pos + (Utf8.decode s pos).2 ≤ s.size ∧ ∀ j, pos ≤ j → j < pos + (Utf8.decode s pos).2 → 128 ≤ (s.get! j).toNat := by
  have hn : ¬ (s[pos]'h).toNat < 128 := by omega
  have h0 : (s.get! (pos + 0)).toNat = (s[pos]'h).toNat := congrArg UInt8.toNat (get_at s pos h)
  have key : ∀ k, (pos + k < s.size && (s.get! (pos + k)).toNat / 64 == 2) = true → pos + k < s.size ∧ 128 ≤ (s.get! (pos + k)).toNat := by
    intro k hk
    simp only [Bool.and_eq_true, decide_eq_true_eq, beq_iff_eq] at hk
    omega
  have one : pos + 1 ≤ s.size ∧ ∀ j, pos ≤ j → j < pos + 1 → 128 ≤ (s.get! j).toNat := by
    refine ⟨by omega, fun j h1 h2 => ?_⟩
    have : j = pos + 0 := by omega
    rw [this, h0]; exact ha
  unfold Utf8.decode
  simp only [h0, hn, if_false]
  split
  · rename_i h1
    simp only [Bool.and_eq_true] at h1
    split
    · have k1 := key 1 (by simpa using h1.2)
      refine ⟨by omega, fun j j1 j2 => ?_⟩
      have : j = pos + 0 ∨ j = pos + 1 := by omega
      rcases this with e | e <;> rw [e]
      · rw [h0]; exact ha
      · exact k1.2
    · exact one
  · split
    · rename_i h1
      simp only [Bool.and_eq_true] at h1
      split
      · have k1 := key 1 (by simpa using h1.1.2)
        have k2 := key 2 (by simpa using h1.2)
        refine ⟨by omega, fun j j1 j2 => ?_⟩
        have : j = pos + 0 ∨ j = pos + 1 ∨ j = pos + 2 := by omega
        rcases this with e | e | e <;> rw [e]
        · rw [h0]; exact ha
        · exact k1.2
        · exact k2.2
      · exact one
    · split
      · rename_i h1
        simp only [Bool.and_eq_true] at h1
        split
        · have k1 := key 1 (by simpa using h1.1.1.2)
          have k2 := key 2 (by simpa using h1.1.2)
          have k3 := key 3 (by simpa using h1.2)
          refine ⟨by omega, fun j j1 j2 => ?_⟩
          have : j = pos + 0 ∨ j = pos + 1 ∨ j = pos + 2 ∨ j = pos + 3 := by omega
          rcases this with e | e | e | e <;> rw [e]
          · rw [h0]; exact ha
          · exact k1.2
          · exact k2.2
          · exact k3.2
        · exact one
      · exact one
/-- What a text answers, read as a prefix. -/
def PfA (l : List UInt8) (a n : Nat) (ok : Bool) : Prop := PfAns (fun a n => pRight a (n : Int)) l a n ok
theorem PfA.noslash {l : List UInt8} (h : (47 : UInt8) ∉ l) : PfA l 0 0 false :=
  .inr ⟨rfl, rfl, rfl, fun b m _ _ _ he => h (by rw [← he]; simp [pfT])⟩
theorem cut_slash {l : List UInt8} {k : Nat} (hk : l[k]? = some 47) : l = l.take k ++ 47 :: l.drop (k + 1) := by
  obtain ⟨h1, h2⟩ := List.getElem?_eq_some_iff.1 hk
  rw [← h2, ← List.drop_eq_getElem_cons h1, List.take_append_drop]
theorem PfA.no {l : List UInt8} {k v : Nat} {ok1 ok2 : Bool} {n : Int} (hk : l[k]? = some 47) (h0 : (47 : UInt8) ∉ l.take k) (h1 : AdAns (l.take k) v ok1) (h2 : IntAns (l.drop (k + 1)) n ok2) (h : ok1 = false ∨ ok2 = false ∨ pRight v n = false) : PfA l 0 0 false := by
  refine .inr ⟨rfl, rfl, rfl, fun b m hb hm hr he => ?_⟩
  have e := cut_slash hk
  rw [e, pfT, List.append_assoc] at he
  obtain ⟨e1, e2⟩ := slash_split he (adT_noslash b hb) h0
  have a1 := h1.one (by rw [← e1]; exact AdAns.text b hb)
  have a2 : n = (m : Int) ∧ ok2 = true := by
    have h3 := IntAns.text (m : Int)
    rw [decI_nat, show decU m = l.drop (k + 1) from e2, if_pos (by omega)] at h3
    have h4 := h2.one h3
    exact ⟨h4.1, by rw [h4.2]; exact decide_eq_true (by omega)⟩
  rcases h with h | h | h
  · rw [a1.2] at h; cases h
  · rw [a2.2] at h; cases h
  · rw [a1.1, a2.1] at h; exact absurd hr (by simp [h])
theorem PfA.yes {l : List UInt8} {k v : Nat} {n : Int} (hk : l[k]? = some 47) (h1 : AdAns (l.take k) v true) (h2 : IntAns (l.drop (k + 1)) n true) (hr : pRight v n = true) : ∃ m : Nat, n = m ∧ PfA l v m true := by
  obtain ⟨m, rfl, hm, _⟩ := pRight_of hr
  refine ⟨m, rfl, .inl ⟨rfl, ?_, hm, hr, ?_⟩⟩
  · rcases h1 with ⟨_, h, _⟩ | ⟨h, _⟩
    · exact h
    · cases h
  · rcases h1 with ⟨_, _, e1⟩ | ⟨h, _⟩
    · rcases h2 with ⟨_, _, _, e2⟩ | ⟨h, _⟩
      · rw [cut_slash hk, pfT, e1, ← e2, decI_nat, List.append_assoc]
        rfl
      · cases h
    · cases h
theorem pfx_ret2 {fn : Func} {p u : Tmp} (h : fn.results = #[.cell p 24, .tmp u]) (tmps : Array Value) (w : World) (g : Nat) (x y : Value)
    (hp : tmps.getD p undef = .pointer (some ⟨g, 0, none⟩)) (hB : Blk w g 24 #[x, y]) :
    (results fn tmps).run Tryd.prog w = .ok (.tuple #[.agg #[x, y], tmps.getD u undef]) w := by
  rw [results_cell_tmp h, hp]
  have := run_loadVar_row (P := Tryd.prog) w g 24 24 #[x, y] (0, 0) _ hB Tryd.underlying24 rfl pfx_info
  simp [asAddr, this]
def RetPf (w : World) (l : List UInt8) (e : Ending) (w' : World) : Prop := ∃ (a n : Nat) (ok : Bool), e = .returned (.tuple #[.agg #[.int .u32 a, .int .i64 n], .bool ok]) ∧ PfA l a n ok ∧ Below w.heap.size w w'
theorem toL_get {s : ByteArray} {j : Nat} (hj : j < s.size) : s.data.toList[j]? = some (s.get! j) := by
  have h1 : s.data.toList[j]? = some s.data.toList[j] := List.getElem?_eq_getElem hj
  rw [h1]
  congr 1
  show s.data[j] = s.data[j]!
  rw [getElem!_pos s.data j hj]
/-- No byte of a letter that is no ASCII is a slash. -/
theorem no_slash_step {s : ByteArray} {pos e : Nat} (h0 : (47 : UInt8) ∉ s.data.toList.take pos) (h : ∀ j, pos ≤ j → j < e → (s.get! j).toNat ≠ 47) : (47 : UInt8) ∉ s.data.toList.take e := by
  intro hm
  obtain ⟨j, hj, he⟩ := List.getElem_of_mem hm
  rw [List.length_take] at hj
  have hjs : j < s.data.toList.length := by omega
  rw [List.getElem_take] at he
  rcases Nat.lt_or_ge j pos with hp | hp
  · apply h0
    rw [← he]
    have : s.data.toList[j] = (s.data.toList.take pos)[j]'(by rw [List.length_take]; omega) := by rw [List.getElem_take]
    rw [this]
    exact List.getElem_mem _
  · have hs : j < s.size := hjs
    have h1 := toL_get hs
    rw [List.getElem?_eq_getElem hjs, he] at h1
    injection h1 with h1
    exact h j hp (by omega) (by rw [← h1]; rfl)
set_option maxHeartbeats 2000000 in
set_option maxRecDepth 100000 in
theorem prefixParse (s : ByteArray) (w : World) (ht : DigTab w) (hl : s.size ≤ 2000) :
    Calls Tryd.prog 21 #[.string s] w (RetPf w s.data.toList) := by
  have hB0 := Blk.new w 24 #[.int .u32 0, .int .i64 0]
  have b0 := (Below.refl w.heap.size w).alloc (Nat.le_refl _) (.cells #[.int .u32 0, .int .i64 0] 24)
  obtain ⟨W, hW⟩ : ∃ W, w.alloc (.cells #[.int .u32 0, .int .i64 0] 24) = W := ⟨_, rfl⟩
  rw [hW] at hB0 b0
  have hsz : W.heap.size = w.heap.size + 1 := by rw [← hW]; simp
  have hs0 : (s.size : Int) ≤ 2000 := by omega
  go_enter Tryd.func21, Tryd.ntmps21
  go_wp2_with fail
  try rw [hW]
  clear hW
  go_loopw [4] (fun _ w' => ∃ pos : Nat, pos ≤ s.size ∧ w' = W.iter s pos ∧ Hid ((47 : UInt8) ∉ s.data.toList.take pos)) (fun _ w' => s.size - w'.iterPos W.heap.size)
  case atStart => exact ⟨0, by omega, rfl, Lib.hid (by simp)⟩
  case round =>
    obtain ⟨pos, hpl, rfl, h0⟩ := hrel
    by_cases hlt : pos < s.size
    · have hg0 := toL_get hlt
      have hge := congrArg UInt8.toNat (get_at s pos hlt)
      rw [Nat.add_zero] at hge
      obtain ⟨x, hx⟩ : ∃ x, (s[pos]'hlt).toNat = x := ⟨_, rfl⟩
      rw [hx] at hge
      by_cases hasc : x < 128
      · have hnx : ∀ ty, (Instr.next (.pointer (some ⟨w.heap.size + 1, 0, none⟩)) true ty).run Tryd.prog (W.iter s pos) = .ok (.tuple #[.bool true, .int .i64 pos, .int .i32 (x : Int)]) (W.iter s (pos + 1)) := fun ty => by
          rw [← hsz, run_next_any W s pos ty hlt, decode_ascii s pos hlt (by omega), hx]
        by_cases h47 : x = 47
        · have HK := Lib.hid (show s.data.toList[pos]? = some 47 by rw [hg0]; congr 1; exact UInt8.toNat_inj.1 (by rw [hge, h47]; rfl))
          subst h47
          have hb1 : Below w.heap.size w (W.iter s (pos + 1)) := below_iter b0 b0.size
          have hB1 : Blk (W.iter s (pos + 1)) w.heap.size 24 #[.int .u32 0, .int .i64 0] := hB0.alloc _
          clear hg0 hge hx
          go_wp2_with fail
          have hx1 : (s.extract 0 pos).data.toList = s.data.toList.take pos := by rw [← ByteArray.toList_eq, Lib.extract_toList]; simp
          have hx2 : (s.extract (pos + 1) s.size).data.toList = s.data.toList.drop (pos + 1) := by
            rw [← ByteArray.toList_eq, Lib.extract_toList, List.take_of_length_le]
            rw [List.length_drop]
            exact Nat.le_refl _
          have hz1 : (s.extract 0 pos).size ≤ 2000 := by
            have : (s.extract 0 pos).size = (s.data.toList.take pos).length := by rw [← hx1]; rfl
            rw [this, List.length_take]; omega
          have hz2 : (s.extract (pos + 1) s.size).size ≤ 2000 := by
            have : (s.extract (pos + 1) s.size).size = (s.data.toList.drop (pos + 1)).length := by rw [← hx2]; rfl
            have h2 : s.data.toList.length = s.size := rfl
            rw [this, List.length_drop]; omega
          have HX1 := Lib.hid hx1
          have HX2 := Lib.hid hx2
          clear hx1 hx2
          refine (parseAddr (s.extract 0 pos) _ (ht.call hb1) hz1).mono ?_
          rintro _ w1 ⟨v, ok1, rfl, hA, b1⟩
          rw [HX1.out] at hA
          have HA := Lib.hid hA
          have hv : v < 4294967296 := by rcases hA with ⟨_, h, _⟩ | ⟨_, h, _⟩ <;> omega
          clear hA
          have hb2 := btr hb1 b1 hb1.size
          have hB2 := hB1.below b1 hB1.lt
          go_wp2_with fail
          refine (octetInt_any (s.extract (pos + 1) s.size) _ (ht.call hb2) hz2).mono ?_
          rintro _ w2 ⟨n, ok2, rfl, hI, b2⟩
          rw [HX2.out] at hI
          have HI := Lib.hid hI
          clear hI hz1 hz2
          have hb3 := btr hb2 b2 hb2.size
          have hB3 := hB2.below b2 hB2.lt
          have hb4 := hb3.alloc hb3.size (.cells #[.int .u32 v, .int .i64 n] 24)
          have hB4 := hB3.alloc (.cells #[.int .u32 v, .int .i64 n] 24)
          have hP4 := Blk.new w2 24 #[.int .u32 v, .int .i64 n]
          have hne : ¬ w2.heap.size = w.heap.size := by have := hB3.lt; omega
          have hpl4 := hP4.lt
          obtain ⟨W4, hW4⟩ : ∃ W4, w2.alloc (.cells #[.int .u32 v, .int .i64 n] 24) = W4 := ⟨_, rfl⟩
          rw [hW4] at hb4 hB4 hP4 hpl4
          have p0 := hP4.cell 0
          have p1 := hP4.cell 1
          cases ok1
          · have HG := Lib.hid (PfA.no HK.out h0.out HA.out HI.out (.inl rfl))
            have f0 := hB4.frozen 0
            have f1 := hB4.frozen 1
            have g0 := hB4.cell 0
            have g1 := hB4.cell 1
            go_wp2_with fail
            try rw [hW4]
            clear hW4
            have hBf := (hB4.set_ 0 (.int .u32 0)).set_ 1 (.int .i64 0)
            refine bodyPost_ret (pfx_ret2 rfl _ _ w.heap.size (.int .u32 0) (.int .i64 0) rfl (by simpa using hBf)) rfl ?_
            exact ⟨0, 0, false, rfl, HG.out, (hb4.setCell (Nat.le_refl _) _).setCell (Nat.le_refl _) _⟩
          · cases ok2
            · have HG := Lib.hid (PfA.no HK.out h0.out HA.out HI.out (.inr (.inl rfl)))
              have f0 := hB4.frozen 0
              have f1 := hB4.frozen 1
              have g0 := hB4.cell 0
              have g1 := hB4.cell 1
              go_wp2_with fail
              try rw [hW4]
              clear hW4
              have hBf := (hB4.set_ 0 (.int .u32 0)).set_ 1 (.int .i64 0)
              refine bodyPost_ret (pfx_ret2 rfl _ _ w.heap.size (.int .u32 0) (.int .i64 0) rfl (by simpa using hBf)) rfl ?_
              exact ⟨0, 0, false, rfl, HG.out, (hb4.setCell (Nat.le_refl _) _).setCell (Nat.le_refl _) _⟩
            · go_wp2_with fail
              try rw [hW4]
              clear hW4
              refine (prefixRight v hv n _).mono ?_
              rintro _ w5 ⟨rfl, b5⟩
              have hb5 := btr hb4 b5 hb4.size
              have hB5 := hB4.below b5 hB4.lt
              have hP5 := hP4.below b5 hpl4
              have q0 := hP5.cell 0
              have q1 := hP5.cell 1
              have f0 := hB5.frozen 0
              have f1 := hB5.frozen 1
              have g0 := hB5.cell 0
              have g1 := hB5.cell 1
              clear p0 p1
              cases hr : pRight v n
              · have HG := Lib.hid (PfA.no HK.out h0.out HA.out HI.out (.inr (.inr hr)))
                go_wp2_with fail
                have hBf := (hB5.set_ 0 (.int .u32 0)).set_ 1 (.int .i64 0)
                refine bodyPost_ret (pfx_ret2 rfl _ _ w.heap.size (.int .u32 0) (.int .i64 0) rfl (by simpa using hBf)) rfl ?_
                exact ⟨0, 0, false, rfl, HG.out, (hb5.setCell (Nat.le_refl _) _).setCell (Nat.le_refl _) _⟩
              · obtain ⟨m, rfl, hG⟩ := PfA.yes HK.out HA.out HI.out hr
                have HG := Lib.hid hG
                go_wp2_with fail
                have hBf := (hB5.set_ 0 (.int .u32 v)).set_ 1 (.int .i64 m)
                refine bodyPost_ret (pfx_ret2 rfl _ _ w.heap.size (.int .u32 v) (.int .i64 m) rfl (by simpa using hBf)) rfl ?_
                exact ⟨v, m, true, rfl, HG.out, (hb5.setCell (Nat.le_refl _) _).setCell (Nat.le_refl _) _⟩
        · have HN := Lib.hid (no_slash_step (e := pos + 1) h0.out (fun j j1 j2 => by rw [show j = pos by omega, hge]; exact h47))
          have ht1 : ((x : Int) != 47) = true := by simpa using (by omega : ¬ (x : Int) = 47)
          clear hg0 hge hx
          go_wp2_with fail
          go_roundw
          case rel => exact ⟨pos + 1, by omega, rfl, HN⟩
          case measure => simp; omega
      · have hsp := decode_span s pos hlt (by omega)
        have hdh := decode_high s pos hlt (by omega)
        have hnx0 := fun ty => run_next_any (P := Tryd.prog) W s pos ty hlt
        obtain ⟨r, hr⟩ : ∃ r, (Utf8.decode s pos).1 = r := ⟨_, rfl⟩
        obtain ⟨wd, hwd⟩ : ∃ wd, (Utf8.decode s pos).2 = wd := ⟨_, rfl⟩
        rw [hr, hwd] at hdh
        rw [hr, hwd] at hnx0
        rw [hwd] at hsp
        rw [hsz] at hnx0
        have HN := Lib.hid (no_slash_step (e := pos + wd) h0.out (fun j j1 j2 => by have := hsp.2 j j1 j2; omega))
        have hle := hsp.1
        have ht1 : ((r : Int) != 47) = true := by simpa using (by omega : ¬ (r : Int) = 47)
        clear hr hwd hg0 hge hx hsp
        go_wp2_with fail
        go_roundw
        case rel => exact ⟨pos + wd, hle, rfl, HN⟩
        case measure => simp; omega
    · have hnx := fun ty => run_next_end (P := Tryd.prog) W s pos ty hlt
      rw [hsz] at hnx
      have HN := Lib.hid (PfA.noslash (l := s.data.toList) (by have := h0.out; rwa [List.take_of_length_le (by show s.size ≤ pos; omega)] at this))
      have hb1 : Below w.heap.size w (W.iter s pos) := below_iter b0 b0.size
      have hB1 : Blk (W.iter s pos) w.heap.size 24 #[.int .u32 0, .int .i64 0] := hB0.alloc _
      have f0 := hB1.frozen 0
      have f1 := hB1.frozen 1
      have c0 := hB1.cell 0
      have c1 := hB1.cell 1
      go_wp2_with fail
      have hBf := (hB1.set_ 0 (.int .u32 0)).set_ 1 (.int .i64 0)
      refine bodyPost_ret (pfx_ret2 rfl _ _ w.heap.size (.int .u32 0) (.int .i64 0) rfl (by simpa using hBf)) rfl ?_
      exact ⟨0, 0, false, rfl, HN.out, (hb1.setCell (Nat.le_refl _) _).setCell (Nat.le_refl _) _⟩
end Go.Proofs.YtnhkpnohadbcdaaDoor
