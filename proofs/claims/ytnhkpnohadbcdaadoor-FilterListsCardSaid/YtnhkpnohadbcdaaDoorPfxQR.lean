/- Walk of the document's layer 2 (prefix): Parse. No conditions but sizes. -/
import Derived.Test.YtnhkpnohadbcdaaDoorProg
import Derived.WalkKit
import Derived.WalkSpells
import Derived.WalkLawsBesides
import Derived.Outline
import Derived.Deep.QuietTactic
import Derived.BigQuiet
import Derived.Handy
import Derived.Lib.Hide
import Derived.Test.YtnhkpnohadbcdaaDoorPfxQ
namespace Go.Proofs.YtnhkpnohadbcdaaDoor
open Go.RowKit
/-- Nothing that was tried is the text. -/
theorem PfA.tried {l : List UInt8} {k v i : Nat} {ok : Bool} (hk : l[k]? = some 47) (h0 : (47 : UInt8) ∉ l.take k) (h1 : AdAns (l.take k) v ok) (h : ok = false ∨ i = 33) (ht : ∀ m, m < i → pRight v (m : Int) = true → pfT v m ≠ l) : PfA l 0 0 false := by
  refine .inr ⟨rfl, rfl, rfl, fun b m hb hm hr he => ?_⟩
  have e := cut_slash hk
  have he2 := he
  rw [e, pfT, List.append_assoc] at he2
  obtain ⟨e1, _⟩ := slash_split he2 (adT_noslash b hb) h0
  have a1 := h1.one (by rw [← e1]; exact AdAns.text b hb)
  rcases h with h | h
  · rw [a1.2] at h; cases h
  · exact ht m (by omega) (by rw [a1.1]; exact hr) (by rw [a1.1]; exact he)
theorem empty_not {s : ByteArray} {k : Nat} (hk : s.data.toList[k]? = some 47) : s.toList.isEmpty = false ∧ ¬ s.toList = [] := by
  rw [ByteArray.toList_eq s]
  have : s.data.toList ≠ [] := fun h => by rw [h] at hk; simp at hk
  exact ⟨by cases h : s.data.toList with
    | nil => exact absurd h this
    | cons => rfl, this⟩
theorem empty_ne {s : ByteArray} {k : Nat} (hk : s.data.toList[k]? = some 47) : ((⟨#[]⟩ : ByteArray).toList == s.toList) = false := by
  rw [ByteArray.toList_eq s]
  have : s.data.toList ≠ [] := fun h => by rw [h] at hk; simp at hk
  refine beq_eq_false_iff_ne.2 fun h => this ?_
  rw [← h, ByteArray.toList_mk]
set_option maxHeartbeats 2000000 in
set_option maxRecDepth 100000 in
theorem ref02Parse (s : ByteArray) (w : World) (hl : s.size ≤ 2000) :
    Calls Tryd.prog 27 #[.string s] w (RetPf w s.data.toList) := by
  have hs0 : (s.size : Int) ≤ 2000 := by omega
  go_enter Tryd.func27, Tryd.ntmps27
  go_wp2_with fail
  obtain ⟨W, hW, hP, hQ, b0⟩ := box2 w (.int .u32 0) (.int .i64 0) (.int .u32 0) (.int .i64 0)
  rw [hW]
  clear hW
  have f0 := hP.frozen 0
  have f1 := hP.frozen 1
  have c0 := hP.cell 0
  have c1 := hP.cell 1
  have d0 := hQ.cell 0
  have d1 := hQ.cell 1
  go_loop [5] (fun i => ∃ k : Nat, k ≤ s.size ∧ i = .int .i64 k ∧ Hid ((47 : UInt8) ∉ s.data.toList.take k)) (fun i => s.size - (intOf i).toNat)
  case atStart => exact ⟨0, by omega, rfl, Lib.hid (by simp)⟩
  case round =>
    obtain ⟨k, hk, rfl, h0⟩ := hrel
    by_cases hlt : k < s.size
    · have hg0 := toL_get hlt
      have hge := congrArg UInt8.toNat (get_at s k hlt)
      rw [Nat.add_zero] at hge
      obtain ⟨x, hx⟩ : ∃ x, (s[k]'hlt).toNat = x := ⟨_, rfl⟩
      rw [hx] at hge
      by_cases h47 : x = 47
      · have HK := Lib.hid (show s.data.toList[k]? = some 47 by rw [hg0]; congr 1; exact UInt8.toNat_inj.1 (by rw [hge, h47]; rfl))
        subst h47
        clear hg0 hge
        have hki : ((k : Int) == s.size) = false := by simpa using (by omega : ¬ (k : Int) = s.size)
        go_wp2_with fail
        have hx1 : (s.extract 0 k).data.toList = s.data.toList.take k := by rw [← ByteArray.toList_eq, Lib.extract_toList]; simp
        have hz1 : (s.extract 0 k).size ≤ 2000 := by
          have : (s.extract 0 k).size = (s.data.toList.take k).length := by rw [← hx1]; rfl
          rw [this, List.length_take]; omega
        have HX1 := Lib.hid hx1
        clear hx1
        refine (ref02ParseAddr (s.extract 0 k) _ hz1).mono ?_
        rintro _ w1 ⟨v, ok1, rfl, hA, b1⟩
        rw [HX1.out] at hA
        have HA := Lib.hid hA
        have hv : v < 4294967296 := by rcases hA with ⟨_, h, _⟩ | ⟨_, h, _⟩ <;> omega
        clear hA hz1
        have hP1 := hP.below b1 hP.lt
        have hQ1 := hQ.below b1 hQ.lt
        have b01 := btr b0 b1 b0.size
        clear f0 f1 c0 c1 d0 d1 hP hQ
        go_wp2_with fail
        go_loopw [8] (fun x wr => ∃ i : Nat, i ≤ 33 ∧ x = .int .i64 i ∧ Blk wr w.heap.size 24 #[.int .u32 0, .int .i64 0] ∧ Blk wr (w.heap.size + 1) 24 #[.int .u32 0, .int .i64 0] ∧ Below w.heap.size w wr ∧ Hid (∀ m, m < i → pRight v (m : Int) = true → pfT v m ≠ s.data.toList)) (fun x _ => 33 - (intOf x).toNat)
        case atStart => exact ⟨0, by omega, rfl, hP1, hQ1, b01, Lib.hid (fun m hm => by omega)⟩
        case round =>
          obtain ⟨i, hi, rfl, hPr, hQr, hbr, hI⟩ := hrel
          have f0 := hPr.frozen 0
          have f1 := hPr.frozen 1
          have c0 := hPr.cell 0
          have c1 := hPr.cell 1
          have d0 := hQr.cell 0
          have d1 := hQr.cell 1
          cases ok1
          · by_cases hi32 : i ≤ 32
            · have hii : (i : Int) ≤ 32 := by omega
              have HG := Lib.hid (PfA.tried HK.out h0.out HA.out (.inl rfl) hI.out)
              go_wp2_with fail
              have hBf := (hPr.set_ 0 (.int .u32 0)).set_ 1 (.int .i64 0)
              refine bodyPost_ret (pfx_ret2 rfl _ _ w.heap.size (.int .u32 0) (.int .i64 0) rfl (by simpa using hBf)) rfl ?_
              exact ⟨0, 0, false, rfl, HG.out, (hbr.setCell (Nat.le_refl _) _).setCell (Nat.le_refl _) _⟩
            · have hii : decide ((i : Int) ≤ 32) = false := decide_eq_false (by omega)
              have HG := Lib.hid (PfA.tried HK.out h0.out HA.out (.inl rfl) hI.out)
              go_wp2_with fail
              have hBf := (hPr.set_ 0 (.int .u32 0)).set_ 1 (.int .i64 0)
              refine bodyPost_ret (pfx_ret2 rfl _ _ w.heap.size (.int .u32 0) (.int .i64 0) rfl (by simpa using hBf)) rfl ?_
              exact ⟨0, 0, false, rfl, HG.out, (hbr.setCell (Nat.le_refl _) _).setCell (Nat.le_refl _) _⟩
          · by_cases hi32 : i ≤ 32
            · have hii : (i : Int) ≤ 32 := by omega
              have hb4 := hbr.alloc hbr.size (.cells #[.int .u32 v, .int .i64 i] 24)
              have hP4 := hPr.alloc (.cells #[.int .u32 v, .int .i64 i] 24)
              have hQ4 := hQr.alloc (.cells #[.int .u32 v, .int .i64 i] 24)
              have hR4 := Blk.new wr 24 #[.int .u32 v, .int .i64 i]
              have hwl := hPr.lt
              have hwl2 := hQr.lt
              cases hr : pRight v (i : Int)
              · go_wp2_with fail
                refine (ref02Text_no v hv (i : Int) _ hr).mono ?_
                rintro _ w6 ⟨rfl, b6⟩
                have hb6 := btr hb4 b6 hb4.size
                have hP6 := hP4.below b6 hP4.lt
                have hQ6 := hQ4.below b6 hQ4.lt
                obtain ⟨hem, hem2⟩ := empty_not HK.out
                clear f0 f1 c0 c1 d0 d1
                have HI2 := Lib.hid (show ∀ m, m < i + 1 → pRight v (m : Int) = true → pfT v m ≠ s.data.toList from fun m hm hrm => by
                  by_cases hmi : m = i
                  · subst hmi
                    rw [hr] at hrm; cases hrm
                  · exact hI.out m (by omega) hrm)
                go_wp2_with fail
                go_roundw
                case rel => exact ⟨i + 1, by omega, by go_num, hP6, hQ6, hb6, HI2⟩
                case measure => simp [intOf]; omega
              · obtain ⟨S, hS⟩ : ∃ S : ByteArray, S = ⟨(pfT v i).toArray⟩ := ⟨_, rfl⟩
                have HS := Lib.hid hS
                have hE : (S.toList == s.toList) = true ↔ pfT v i = s.data.toList := by rw [beq_iff_eq, hS, ByteArray.toList_mk, ByteArray.toList_eq]
                clear hS
                cases hb : (S.toList == s.toList)
                · have hne : ¬ pfT v i = s.data.toList := fun he => by rw [hE.2 he] at hb; cases hb
                  have HNE := Lib.hid hne
                  clear hE hne
                  go_wp2_with fail
                  refine (ref02Text_yes v hv i hi32 S _ hr HS).mono ?_
                  rintro _ w6 ⟨rfl, b6⟩
                  have hb6 := btr hb4 b6 hb4.size
                  have hP6 := hP4.below b6 hP4.lt
                  have hQ6 := hQ4.below b6 hQ4.lt
                  clear f0 f1 c0 c1 d0 d1
                  have HI2 := Lib.hid (show ∀ m, m < i + 1 → pRight v (m : Int) = true → pfT v m ≠ s.data.toList from fun m hm hrm => by
                    by_cases hmi : m = i
                    · subst hmi
                      exact HNE.out
                    · exact hI.out m (by omega) hrm)
                  go_wp2_with fail
                  go_roundw
                  case rel => exact ⟨i + 1, by omega, by go_num, hP6, hQ6, hb6, HI2⟩
                  case measure => simp [intOf]; omega
                · have HG := Lib.hid (show PfA s.data.toList v i true from .inl ⟨rfl, hv, hi32, hr, hE.1 hb⟩)
                  clear hE
                  go_wp2_with fail
                  refine (ref02Text_yes v hv i hi32 S _ hr HS).mono ?_
                  rintro _ w6 ⟨rfl, b6⟩
                  have hb6 := btr hb4 b6 hb4.size
                  have hP6 := hP4.below b6 hP4.lt
                  have hR6 := hR4.below b6 (by simp)
                  have hne : ¬ wr.heap.size = w.heap.size := by omega
                  clear f0 f1 c0 c1 d0 d1
                  have f0 := hP6.frozen 0
                  have f1 := hP6.frozen 1
                  have c0 := hP6.cell 0
                  have c1 := hP6.cell 1
                  have q0 := hR6.cell 0
                  have q1 := hR6.cell 1
                  go_wp2_with fail
                  have hBf := (hP6.set_ 0 (.int .u32 v)).set_ 1 (.int .i64 i)
                  refine bodyPost_ret (pfx_ret2 rfl _ _ w.heap.size (.int .u32 v) (.int .i64 i) rfl (by simpa using hBf)) rfl ?_
                  exact ⟨v, i, true, rfl, HG.out, (hb6.setCell (Nat.le_refl _) _).setCell (Nat.le_refl _) _⟩
            · have hii : decide ((i : Int) ≤ 32) = false := decide_eq_false (by omega)
              have hi33 : i = 33 := by omega
              have HG := Lib.hid (PfA.tried HK.out h0.out HA.out (.inr hi33) hI.out)
              go_wp2_with fail
              have hBf := (hPr.set_ 0 (.int .u32 0)).set_ 1 (.int .i64 0)
              refine bodyPost_ret (pfx_ret2 rfl _ _ w.heap.size (.int .u32 0) (.int .i64 0) rfl (by simpa using hBf)) rfl ?_
              exact ⟨0, 0, false, rfl, HG.out, (hbr.setCell (Nat.le_refl _) _).setCell (Nat.le_refl _) _⟩
      · have HN := Lib.hid (no_slash_step (e := k + 1) h0.out (fun j j1 j2 => by rw [show j = k by omega, hge]; exact h47))
        have ht1 : ((x : Int) != 47) = true := by simpa using (by omega : ¬ (x : Int) = 47)
        clear hg0 hge
        go_wp2_with fail
        go_round
        case rel => exact ⟨k + 1, by omega, by go_num, HN⟩
        case measure => simp [intOf]; omega
    · have hk' : k = s.size := by omega
      have HN := Lib.hid (PfA.noslash (l := s.data.toList) (by have := h0.out; rwa [List.take_of_length_le (by show s.size ≤ k; omega)] at this))
      subst hk'
      go_wp2_with fail
      have hBf := (hP.set_ 0 (.int .u32 0)).set_ 1 (.int .i64 0)
      refine bodyPost_ret (pfx_ret2 rfl _ _ w.heap.size (.int .u32 0) (.int .i64 0) rfl (by simpa using hBf)) rfl ?_
      exact ⟨0, 0, false, rfl, HN.out, (b0.setCell (Nat.le_refl _) _).setCell (Nat.le_refl _) _⟩
end Go.Proofs.YtnhkpnohadbcdaaDoor
