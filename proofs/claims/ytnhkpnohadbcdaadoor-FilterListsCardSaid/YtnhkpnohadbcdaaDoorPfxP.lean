/- Walks of layer 2 (prefix): ParseAddr, and the document's. Conditions: the table of digits (DigTab). -/
import Derived.Test.YtnhkpnohadbcdaaDoorProg
import Derived.WalkKit
import Derived.WalkSpells
import Derived.WalkLawsBesides
import Derived.Outline
import Derived.Deep.QuietTactic
import Derived.BigQuiet
import Derived.Handy
import Derived.Lib.Hide
import Derived.Laws.RangeString
import Derived.Laws.RangeAny
import Derived.Test.YtnhkpnohadbcdaaDoorPfxA
import Derived.Test.YtnhkpnohadbcdaaDoorReaderB
namespace Go.Proofs.YtnhkpnohadbcdaaDoor
open Go.RowKit
theorem width_pos (s : ByteArray) (pos : Nat) (h : pos < s.size) : 1 ≤ (Utf8.decode s pos).2 := by
  by_cases ha : (s[pos]'h).toNat < 128
  · rw [decode_ascii s pos h ha]
    exact Nat.le_refl _
  · exact (decode_high s pos h (by omega)).2
theorem below_iter {B : Nat} {a w : World} {s : ByteArray} {pos : Nat} (h : Below B a w) (hB : B ≤ w.heap.size) : Below B a (w.iter s pos) := h.alloc hB _
theorem or_step (a p : Nat) (hp : p ≤ 1000) : bits BinOp.or IntKind.u32 ((a : Int) * 256 % 4294967296) (bits BinOp.and IntKind.u32 (p : Int) 255) = ((a * 256 % 4294967296 + p % 256 : Nat) : Int) := by
  have e1 : (a : Int) * 256 % 4294967296 = ((a % 16777216 : Nat) : Int) * 256 := by omega
  have e2 : bits BinOp.and IntKind.u32 (p : Int) 255 = ((p % 256 : Nat) : Int) := by
    rw [show (255 : Int) = ((255 : Nat) : Int) from rfl, u32_and_nat _ _ (by omega) (by omega), show (255 : Nat) = 2 ^ 8 - 1 from rfl, Nat.and_two_pow_sub_one_eq_mod]
  rw [e1, e2, u32_or8 _ _ (by omega) (by omega)]
  congr 1
  omega
/-- A number and a bool are handed back: which number with dots the text says. -/
def RetAd (w : World) (l : List UInt8) (e : Ending) (w' : World) : Prop := ∃ (v : Nat) (ok : Bool), e = .returned (.tuple #[.int .u32 v, .bool ok]) ∧ AdAns l v ok ∧ Below w.heap.size w w'
set_option maxHeartbeats 2000000 in
set_option maxRecDepth 100000 in
theorem parseAddr (s : ByteArray) (w : World) (ht : DigTab w) (hl : s.size ≤ 2000) :
    Calls Tryd.prog 20 #[.string s] w (RetAd w s.data.toList) := by
  have hsz : s.data.toList.length = s.size := rfl
  obtain ⟨l, hL⟩ : ∃ l, s.data.toList = l := ⟨_, rfl⟩
  rw [hL] at hsz ⊢
  have HL := Lib.hid hL
  have HSZ := Lib.hid hsz
  clear hL hsz
  go_enter Tryd.func20, Tryd.ntmps20
  go_wp2_with fail
  go_loopw [4, 5] (fun x y w' => ∃ (pos a p : Nat), pos ≤ s.size ∧ w' = w.iter s pos ∧ x = .int .u32 a ∧ y = .int .u32 p ∧ a < 4294967296 ∧ p ≤ 1000 ∧ Hid (paL (l.take pos) = some (a, p))) (fun _ _ w' => s.size - w'.iterPos w.heap.size)
  case atStart => exact ⟨0, 0, 0, by omega, rfl, rfl, rfl, by omega, by omega, Lib.hid rfl⟩
  case round =>
    obtain ⟨pos, a, p, hpl, rfl, rfl, rfl, ha, hp, hI⟩ := hrel
    by_cases hlt : pos < s.size
    · have hkl : pos < l.length := by rw [HSZ.out]; exact hlt
      have e0 : (s[pos]'hlt).toNat = (l[pos]).toNat := by have := HL.out; subst this; rfl
      obtain ⟨x, hx⟩ : ∃ x, (l[pos]).toNat = x := ⟨_, rfl⟩
      rw [hx] at e0
      have HS := Lib.hid (show paL (l.take (pos + 1)) = paStep (some (a, p)) l[pos] by rw [List.take_succ_eq_append_getElem hkl, paL_snoc, hI.out])
      by_cases hasc : x < 128
      · have hnx : ∀ ty, (Instr.next (.pointer (some ⟨w.heap.size, 0, none⟩)) true ty).run Tryd.prog (w.iter s pos) = .ok (.tuple #[.bool true, .int .i64 pos, .int .i32 (x : Int)]) (w.iter s (pos + 1)) := fun ty => by
          rw [run_next_any w s pos ty hlt, decode_ascii s pos hlt (by omega), e0]
        by_cases h46 : x = 46
        · have HN := Lib.hid (show paL (l.take (pos + 1)) = some (a * 256 % 4294967296 + p % 256, 0) by rw [HS.out, paStep, if_pos (by omega)])
          subst h46
          have ES := or_step a p hp
          go_wp2_with fail
          go_roundw
          case rel => exact ⟨pos + 1, a * 256 % 4294967296 + p % 256, 0, by omega, rfl, by congr 1 <;> omega, rfl, by omega, by omega, HN⟩
          case measure => simp; omega
        · have ht1 : ((x : Int) == 46) = false := by simpa using (by omega : ¬ (x : Int) = 46)
          by_cases hdig : 48 ≤ x ∧ x ≤ 57
          · have HN := Lib.hid (show paL (l.take (pos + 1)) = some (a, min (10 * p + (x - 48)) 1000) by rw [HS.out, paStep, if_neg (by omega), if_pos (by omega), hx])
            have d1 : (48 : Int) ≤ x := by omega
            have d2 : (x : Int) ≤ 57 := by omega
            go_wp2_with fail
            go_roundw
            case rel => exact ⟨pos + 1, a, min (10 * p + (x - 48)) 1000, by omega, rfl, rfl, by congr 1; split <;> omega, ha, by omega, HN⟩
            case measure => simp; omega
          · have HN := Lib.hid (AdAns.paNo (l := l) (k := pos + 1) (by rw [HS.out, paStep, if_neg (by omega), if_neg (by omega)]))
            by_cases h48 : 48 ≤ x
            · have d1 : (48 : Int) ≤ x := by omega
              have d2 : decide ((x : Int) ≤ 57) = false := decide_eq_false (by omega)
              go_wp2_with fail
              go_ret2
              exact ⟨0, false, rfl, HN.out, below_iter (Below.refl _ _) (Nat.le_refl _)⟩
            · have d1 : decide ((48 : Int) ≤ x) = false := decide_eq_false (by omega)
              go_wp2_with fail
              go_ret2
              exact ⟨0, false, rfl, HN.out, below_iter (Below.refl _ _) (Nat.le_refl _)⟩
      · have HN := Lib.hid (AdAns.paNo (l := l) (k := pos + 1) (by rw [HS.out, paStep, if_neg (by omega), if_neg (by omega)]))
        have hdh := decode_high s pos hlt (by omega)
        have hnx0 := fun ty => run_next_any (P := Tryd.prog) w s pos ty hlt
        obtain ⟨r, hr⟩ : ∃ r, (Utf8.decode s pos).1 = r := ⟨_, rfl⟩
        obtain ⟨wd, hwd⟩ : ∃ wd, (Utf8.decode s pos).2 = wd := ⟨_, rfl⟩
        rw [hr, hwd] at hdh
        rw [hr, hwd] at hnx0
        have ht1 : ((r : Int) == 46) = false := by simpa using (by omega : ¬ (r : Int) = 46)
        have d1 : (48 : Int) ≤ r := by omega
        have d2 : decide ((r : Int) ≤ 57) = false := decide_eq_false (by omega)
        clear hr hwd
        go_wp2_with fail
        go_ret2
        exact ⟨0, false, rfl, HN.out, below_iter (Below.refl _ _) (Nat.le_refl _)⟩
    · have hnx : ∀ ty, (Instr.next (.pointer (some ⟨w.heap.size, 0, none⟩)) true ty).run Tryd.prog (w.iter s pos) = _ := fun ty => run_next_end w s pos ty hlt
      have HI2 := Lib.hid (show paL l = some (a, p) by rw [← hI.out, List.take_of_length_le (by rw [HSZ.out]; omega)])
      have ES := or_step a p hp
      obtain ⟨N, hN⟩ : ∃ N, a * 256 % 4294967296 + p % 256 = N := ⟨_, rfl⟩
      rw [hN] at ES
      have hNl : N < 4294967296 := by omega
      have HN := Lib.hid hN
      clear hN
      have hbi : Below w.heap.size w (w.iter s pos) := below_iter (Below.refl _ _) (Nat.le_refl _)
      obtain ⟨S, hS⟩ : ∃ S : ByteArray, S = ⟨(adT N).toArray⟩ := ⟨_, rfl⟩
      have HS := Lib.hid hS
      have hE : (S.toList == s.toList) = true ↔ adT N = l := by rw [beq_iff_eq, hS, ByteArray.toList_mk, ByteArray.toList_eq, HL.out]
      clear hS
      cases hb : (S.toList == s.toList)
      · have HG := Lib.hid (AdAns.paEnd HI2.out (fun he => by rw [HN.out] at he; rw [hE.2 he] at hb; cases hb))
        have hb' : (S.toList != s.toList) = true := by unfold bne; rw [hb]; rfl
        clear hE
        go_wp2_with fail
        refine (prefixAddr N hNl S _ (ht.call hbi) HS).mono ?_
        rintro _ w1 ⟨rfl, b1⟩
        go_wp2_with fail
        go_ret2
        exact ⟨0, false, rfl, HG.out, btr hbi b1 hbi.size⟩
      · have HG := Lib.hid (show AdAns l N true from .inl ⟨rfl, hNl, hE.1 hb⟩)
        have hb' : (S.toList != s.toList) = false := by unfold bne; rw [hb]; rfl
        clear hE
        go_wp2_with fail
        refine (prefixAddr N hNl S _ (ht.call hbi) HS).mono ?_
        rintro _ w1 ⟨rfl, b1⟩
        go_wp2_with fail
        go_ret2
        exact ⟨N, true, rfl, HG.out, btr hbi b1 hbi.size⟩
set_option maxHeartbeats 2000000 in
set_option maxRecDepth 100000 in
theorem ref02ParseAddr (s : ByteArray) (w : World) (hl : s.size ≤ 2000) :
    Calls Tryd.prog 26 #[.string s] w (RetAd w s.data.toList) := by
  have hsz : s.data.toList.length = s.size := rfl
  obtain ⟨l, hL⟩ : ∃ l, s.data.toList = l := ⟨_, rfl⟩
  rw [hL] at hsz ⊢
  have HL := Lib.hid hL
  have HSZ := Lib.hid hsz
  clear hL hsz
  have hs0 : (s.size : Int) ≤ 2000 := by omega
  go_enter Tryd.func26, Tryd.ntmps26
  go_wp2_with fail
  go_loop [4, 5, 6] (fun n y i => ∃ (k a p : Nat), k ≤ s.size ∧ k ≤ 16 ∧ i = .int .i64 k ∧ n = .int .i64 a ∧ y = .int .i64 p ∧ a ≤ 16777215 ∧ p ≤ 255 ∧ Hid (prL (l.take k) = some (a, p))) (fun _ _ i => s.size - (intOf i).toNat)
  case atStart => exact ⟨0, 0, 0, by omega, by omega, rfl, rfl, rfl, by omega, by omega, Lib.hid rfl⟩
  case round =>
    obtain ⟨k, a, p, hk, hk16, rfl, rfl, rfl, ha, hp, hI⟩ := hrel
    by_cases hlt : k < s.size ∧ k < 16
    · obtain ⟨hlt1, hlt2⟩ := hlt
      have hlt2i : (k : Int) < 16 := by omega
      have hkl : k < l.length := by rw [HSZ.out]; exact hlt1
      have e0 : (s[k]'hlt1).toNat = (l[k]).toNat := by have := HL.out; subst this; rfl
      obtain ⟨x, hx⟩ : ∃ x, (l[k]).toNat = x := ⟨_, rfl⟩
      have hx256 : x < 256 := by rw [← hx]; exact UInt8.toNat_lt _
      rw [hx] at e0
      have HS := Lib.hid (show prL (l.take (k + 1)) = prStep (some (a, p)) l[k] by rw [List.take_succ_eq_append_getElem hkl, prL_snoc, hI.out])
      have HX := Lib.hid hx
      clear hx
      by_cases h46 : x = 46
      · subst h46
        by_cases hbig : 16777215 < 256 * a + p
        · have HG := Lib.hid (AdAns.prNo (l := l) (k := k + 1) (by rw [HS.out, prStep, HX.out, if_pos rfl, if_pos hbig]))
          have hbi : (16777215 : Int) < 256 * (a : Int) + p := by omega
          go_wp2_with fail
          go_ret2
          exact ⟨0, false, rfl, HG.out, Below.refl _ _⟩
        · have HN := Lib.hid (show prL (l.take (k + 1)) = some (256 * a + p, 0) by rw [HS.out, prStep, HX.out, if_pos rfl, if_neg hbig])
          have hbi : ¬ (16777215 : Int) < 256 * (a : Int) + p := by omega
          have hd : decide ((16777215 : Int) < 256 * (a : Int) + p) = false := decide_eq_false hbi
          go_wp2_with fail
          go_round
          case rel => exact ⟨k + 1, 256 * a + p, 0, by omega, by omega, by go_num, by congr 1 <;> omega, rfl, by omega, by omega, HN⟩
          case measure => simp [intOf]; omega
      · have ht1 : ((x : Int) == 46) = false := by simpa using (by omega : ¬ (x : Int) = 46)
        by_cases hneg : 10 * p + x < 48
        · have HG := Lib.hid (AdAns.prNo (l := l) (k := k + 1) (by rw [HS.out, prStep, HX.out, if_neg h46, if_pos (.inl hneg)]))
          have hbi : 10 * (p : Int) + x - 48 < 0 := by omega
          go_wp2_with fail
          go_ret2
          exact ⟨0, false, rfl, HG.out, Below.refl _ _⟩
        · by_cases hbig : 255 < 10 * p + x - 48
          · have HG := Lib.hid (AdAns.prNo (l := l) (k := k + 1) (by rw [HS.out, prStep, HX.out, if_neg h46, if_pos (.inr hbig)]))
            have hbi0 : ¬ 10 * (p : Int) + x - 48 < 0 := by omega
            have hbi : 255 < 10 * (p : Int) + x - 48 := by omega
            go_wp2_with fail
            go_ret2
            exact ⟨0, false, rfl, HG.out, Below.refl _ _⟩
          · have HN := Lib.hid (show prL (l.take (k + 1)) = some (a, 10 * p + x - 48) by rw [HS.out, prStep, HX.out, if_neg h46, if_neg (by omega)])
            have hbi0 : ¬ 10 * (p : Int) + x - 48 < 0 := by omega
            have hbi : ¬ 255 < 10 * (p : Int) + x - 48 := by omega
            have hbi2 : ¬ (16777215 : Int) < a := by omega
            go_wp2_with fail
            go_round
            case rel => exact ⟨k + 1, a, 10 * p + x - 48, by omega, by omega, by go_num, rfl, by congr 1 <;> omega, ha, by omega, HN⟩
            case measure => simp [intOf]; omega
    · have HK := Lib.hid (show prL (l.take 16) = some (a, p) by
        rw [← hI.out]
        by_cases h16 : k = 16
        · rw [h16]
        · rw [List.take_of_length_le (by rw [HSZ.out]; omega), List.take_of_length_le (by rw [HSZ.out]; omega)])
      obtain ⟨N, hN⟩ : ∃ N, 256 * a + p = N := ⟨_, rfl⟩
      have hNl : N < 4294967296 := by omega
      have hNi : 256 * (a : Int) + p = N := by omega
      have HN := Lib.hid hN
      clear hN
      obtain ⟨S, hS⟩ : ∃ S : ByteArray, S = ⟨(adT N).toArray⟩ := ⟨_, rfl⟩
      have HS := Lib.hid hS
      have hE : (S.toList == s.toList) = true ↔ adT N = l := by rw [beq_iff_eq, hS, ByteArray.toList_mk, ByteArray.toList_eq, HL.out]
      clear hS
      by_cases hk2 : k < s.size
      all_goals
        have hk3 : ¬ k < s.size ∨ ¬ k < 16 := by omega
        clear hlt
        first | (have hk4 : (16 : Int) ≤ k := by omega) | (have hk4 : (s.size : Int) ≤ k := by omega)
        clear hk3
        cases hb : (S.toList == s.toList)
        · have HG := Lib.hid (AdAns.prEnd HK.out (fun he => by rw [HN.out] at he; rw [hE.2 he] at hb; cases hb))
          have hb' : (S.toList != s.toList) = true := by unfold bne; rw [hb]; rfl
          clear hE
          go_wp2_with fail
          refine (ref02Addr N hNl S _ HS).mono ?_
          rintro _ w1 ⟨rfl, b1⟩
          go_wp2_with fail
          go_ret2
          exact ⟨0, false, rfl, HG.out, b1⟩
        · have HG := Lib.hid (show AdAns l N true from .inl ⟨rfl, hNl, hE.1 hb⟩)
          have hb' : (S.toList != s.toList) = false := by unfold bne; rw [hb]; rfl
          clear hE
          go_wp2_with fail
          refine (ref02Addr N hNl S _ HS).mono ?_
          rintro _ w1 ⟨rfl, b1⟩
          go_wp2_with fail
          go_ret2
          exact ⟨N, true, rfl, HG.out, b1⟩
end Go.Proofs.YtnhkpnohadbcdaaDoor
