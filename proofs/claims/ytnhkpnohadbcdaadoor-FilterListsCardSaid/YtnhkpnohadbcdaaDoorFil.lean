/- Walks of layer 12 (filter): Comm, and the document's; cut. Conditions: the table of digits (DigTab). -/
import Derived.Test.YtnhkpnohadbcdaaDoorProg
import Derived.WalkKit
import Derived.WalkSpells
import Derived.WalkLawsBesides
import Derived.Outline
import Derived.Deep.QuietTactic
import Derived.BigQuiet
import Derived.Handy
import Derived.Lib.Hide
import Derived.Laws.RangeString
import Derived.Laws.RangeAny
import Derived.Test.YtnhkpnohadbcdaaDoorFilPlain
namespace Go.Proofs.YtnhkpnohadbcdaaDoor
open Go.RowKit
theorem partsC (c : Nat) (hc : c < 4294967296) (hn : ¬ named c) : ∃ (S1 S2 : ByteArray), Hid (S1 = ⟨(decI ((c / 65536 : Nat) : Int)).toArray⟩) ∧ Hid (S2 = ⟨(decI ((c % 65536 : Nat) : Int)).toArray⟩) ∧ S1.size ≤ 5 ∧ S2.size ≤ 5 ∧ Hid (S1 ++ ⟨#[58]⟩ ++ S2 = ⟨(commT c).toArray⟩) := by
  refine ⟨_, _, Lib.hid rfl, Lib.hid rfl, ?_, ?_, Lib.hid ?_⟩
  · rw [decI_nat]; exact decU_len 4 _ (by omega)
  · rw [decI_nat]; exact decU_len 4 _ (by omega)
  · rw [show (⟨#[58]⟩ : ByteArray) = ⟨[58].toArray⟩ from rfl]
    simp only [bsA, decI_nat]
    rw [commT_num hn, List.append_assoc]
    rfl
set_option maxHeartbeats 1000000 in
set_option maxRecDepth 100000 in
theorem filterComm (c : Nat) (hc : c < 4294967296) (S : ByteArray) (w : World) (ht : DigTab w) (hS : Hid (S = ⟨(commT c).toArray⟩)) :
    Calls Tryd.prog 44 #[.int .u32 c] w fun en w' => en = .returned (.string S) ∧ Below w.heap.size w w' := by
  by_cases h1 : c = 4294967041
  · have HE := Lib.hid (show (⟨(commT 4294967041).toArray⟩ : ByteArray) = S by rw [← h1]; exact hS.out.symm)
    have d1 : ((c : Int) == 4294967041) = true := beq_iff_eq.2 (by omega)
    clear h1
    rw [commT_1] at HE
    go_enter Tryd.func44, Tryd.ntmps44
    go_wp2_with fail
    go_ret
    exact ⟨ret_s HE.out, Below.refl _ _⟩
  by_cases h2 : c = 4294967042
  · have HE := Lib.hid (show (⟨(commT 4294967042).toArray⟩ : ByteArray) = S by rw [← h2]; exact hS.out.symm)
    have d1 : ((c : Int) == 4294967041) = false := beq_eq_false_iff_ne.2 (by omega)
    have d2 : ((c : Int) == 4294967042) = true := beq_iff_eq.2 (by omega)
    clear h2
    rw [commT_2] at HE
    go_enter Tryd.func44, Tryd.ntmps44
    go_wp2_with fail
    go_ret
    exact ⟨ret_s HE.out, Below.refl _ _⟩
  by_cases h3 : c = 4294967043
  · have HE := Lib.hid (show (⟨(commT 4294967043).toArray⟩ : ByteArray) = S by rw [← h3]; exact hS.out.symm)
    have d1 : ((c : Int) == 4294967041) = false := beq_eq_false_iff_ne.2 (by omega)
    have d2 : ((c : Int) == 4294967042) = false := beq_eq_false_iff_ne.2 (by omega)
    have d3 : ((c : Int) == 4294967043) = true := beq_iff_eq.2 (by omega)
    clear h3
    rw [commT_3] at HE
    go_enter Tryd.func44, Tryd.ntmps44
    go_wp2_with fail
    go_ret
    exact ⟨ret_s HE.out, Below.refl _ _⟩
  have d1 : ((c : Int) == 4294967041) = false := beq_eq_false_iff_ne.2 (by omega)
  have d2 : ((c : Int) == 4294967042) = false := beq_eq_false_iff_ne.2 (by omega)
  have d3 : ((c : Int) == 4294967043) = false := beq_eq_false_iff_ne.2 (by omega)
  obtain ⟨S1, S2, k1, k2, z1, z2, hT⟩ := partsC c hc (by rintro (h | h | h) <;> contradiction)
  have HE := Lib.hid (hT.out.trans hS.out.symm)
  have hx : (c : Int) / 65536 = ((c / 65536 : Nat) : Int) := by omega
  have e2 : bits .and .u32 (c : Int) 65535 = ((c % 65536 : Nat) : Int) := by
    have h := u32_and_nat c 65535 hc (by omega)
    rw [show c &&& 65535 = c % 65536 from Nat.and_two_pow_sub_one_eq_mod c 16] at h
    exact h
  obtain ⟨x, hx1⟩ : ∃ x, c / 65536 = x := ⟨_, rfl⟩
  obtain ⟨y, hy1⟩ : ∃ y, c % 65536 = y := ⟨_, rfl⟩
  have hxl : x < 65536 := by omega
  have hyl : y < 65536 := by omega
  rw [hx1] at hx k1
  rw [hy1] at e2 k2
  have OB := Lib.hid (show (∀ p : Nat, p < 65536 → (-9223372036854775808 : Int) ≤ (p : Int) ∧ (p : Int) ≤ 9223372036854775807) from fun p _ => by omega)
  clear h1 h2 h3 hx1 hy1
  go_enter Tryd.func44, Tryd.ntmps44
  go_wp2_with fail
  refine (octetText _ S1 _ ht (OB.out _ hxl).1 (OB.out _ hxl).2 k1).mono ?_
  rintro _ w1 ⟨rfl, b1⟩
  go_wp2_with fail
  refine (octetText _ S2 _ (ht.call b1) (OB.out _ hyl).1 (OB.out _ hyl).2 k2).mono ?_
  rintro _ w2 ⟨rfl, b2⟩
  have b12 := btr b1 b2 b1.size
  go_wp2_with fail
  go_ret
  exact ⟨ret_s HE.out, b12⟩
set_option maxHeartbeats 1000000 in
set_option maxRecDepth 100000 in
theorem refComm (c : Nat) (hc : c < 4294967296) (S : ByteArray) (w : World) (hS : Hid (S = ⟨(commT c).toArray⟩)) :
    Calls Tryd.prog 47 #[.int .u32 c] w fun en w' => en = .returned (.string S) ∧ Below w.heap.size w w' := by
  by_cases h1 : c = 4294967041
  · have HE := Lib.hid (show (⟨(commT 4294967041).toArray⟩ : ByteArray) = S by rw [← h1]; exact hS.out.symm)
    have d1 : ((c : Int) == 4294967041) = true := beq_iff_eq.2 (by omega)
    clear h1
    rw [commT_1] at HE
    go_enter Tryd.func47, Tryd.ntmps47
    go_wp2_with fail
    go_ret
    exact ⟨ret_s HE.out, Below.refl _ _⟩
  by_cases h2 : c = 4294967042
  · have HE := Lib.hid (show (⟨(commT 4294967042).toArray⟩ : ByteArray) = S by rw [← h2]; exact hS.out.symm)
    have d1 : ((c : Int) == 4294967041) = false := beq_eq_false_iff_ne.2 (by omega)
    have d2 : ((c : Int) == 4294967042) = true := beq_iff_eq.2 (by omega)
    clear h2
    rw [commT_2] at HE
    go_enter Tryd.func47, Tryd.ntmps47
    go_wp2_with fail
    go_ret
    exact ⟨ret_s HE.out, Below.refl _ _⟩
  by_cases h3 : c = 4294967043
  · have HE := Lib.hid (show (⟨(commT 4294967043).toArray⟩ : ByteArray) = S by rw [← h3]; exact hS.out.symm)
    have d1 : ((c : Int) == 4294967041) = false := beq_eq_false_iff_ne.2 (by omega)
    have d2 : ((c : Int) == 4294967042) = false := beq_eq_false_iff_ne.2 (by omega)
    have d3 : ((c : Int) == 4294967043) = true := beq_iff_eq.2 (by omega)
    clear h3
    rw [commT_3] at HE
    go_enter Tryd.func47, Tryd.ntmps47
    go_wp2_with fail
    go_ret
    exact ⟨ret_s HE.out, Below.refl _ _⟩
  have d1 : ((c : Int) == 4294967041) = false := beq_eq_false_iff_ne.2 (by omega)
  have d2 : ((c : Int) == 4294967042) = false := beq_eq_false_iff_ne.2 (by omega)
  have d3 : ((c : Int) == 4294967043) = false := beq_eq_false_iff_ne.2 (by omega)
  obtain ⟨S1, S2, k1, k2, z1, z2, hT⟩ := partsC c hc (by rintro (h | h | h) <;> contradiction)
  have HE := Lib.hid (hT.out.trans hS.out.symm)
  have hx : (c : Int) / 65536 = ((c / 65536 : Nat) : Int) := by omega
  have hy : (c : Int) % 65536 = ((c % 65536 : Nat) : Int) := by omega
  obtain ⟨x, hx1⟩ : ∃ x, c / 65536 = x := ⟨_, rfl⟩
  obtain ⟨y, hy1⟩ : ∃ y, c % 65536 = y := ⟨_, rfl⟩
  have hxl : x < 65536 := by omega
  have hyl : y < 65536 := by omega
  rw [hx1] at hx k1
  rw [hy1] at hy k2
  have OB := Lib.hid (show (∀ p : Nat, p < 65536 → (-9223372036854775808 : Int) ≤ (p : Int) ∧ (p : Int) ≤ 9223372036854775807) from fun p _ => by omega)
  clear h1 h2 h3 hx1 hy1
  go_enter Tryd.func47, Tryd.ntmps47
  go_wp2_with fail
  refine (refText _ S1 _ (OB.out _ hxl).1 (OB.out _ hxl).2 k1).mono ?_
  rintro _ w1 ⟨rfl, b1⟩
  go_wp2_with fail
  refine (refText _ S2 _ (OB.out _ hyl).1 (OB.out _ hyl).2 k2).mono ?_
  rintro _ w2 ⟨rfl, b2⟩
  have b12 := btr b1 b2 b1.size
  go_wp2_with fail
  go_ret
  exact ⟨ret_s HE.out, b12⟩
/-- No byte of a letter that is no sign is the sign. -/
theorem no_sign_step {g : UInt8} {s : ByteArray} {pos e : Nat} (h0 : g ∉ s.data.toList.take pos) (h : ∀ j, pos ≤ j → j < e → (s.get! j).toNat ≠ g.toNat) : g ∉ s.data.toList.take e := by
  intro hm
  obtain ⟨j, hj, he⟩ := List.getElem_of_mem hm
  rw [List.length_take] at hj
  have hjs : j < s.data.toList.length := by omega
  rw [List.getElem_take] at he
  rcases Nat.lt_or_ge j pos with hp | hp
  · apply h0
    rw [← he]
    have : s.data.toList[j] = (s.data.toList.take pos)[j]'(by rw [List.length_take]; omega) := by rw [List.getElem_take]
    rw [this]
    exact List.getElem_mem _
  · have hs : j < s.size := hjs
    have h1 := toL_get hs
    rw [List.getElem?_eq_getElem hjs, he] at h1
    injection h1 with h1
    exact h j hp (by omega) (by rw [← h1])
/-- A cut is handed back. -/
def RetCut (w : World) (g : UInt8) (l : List UInt8) (n : Nat) (e : Ending) (w' : World) : Prop := ∃ (S1 S2 : ByteArray) (ok : Bool), e = .returned (.tuple #[.string S1, .string S2, .bool ok]) ∧ CutAns g l S1.data.toList S2.data.toList ok ∧ S1.size ≤ n ∧ S2.size ≤ n ∧ Below w.heap.size w w'
set_option maxHeartbeats 2000000 in
set_option maxRecDepth 100000 in
theorem filterCut (s : ByteArray) (g : UInt8) (q : Nat) (hq : g.toNat = q) (hq7 : q < 128) (w : World) (hl : s.size ≤ 2000) :
    Calls Tryd.prog 88 #[.string s, .int .i32 q] w (RetCut w g s.data.toList s.size) := by
  have hs0 : (s.size : Int) ≤ 2000 := by omega
  have HQ := Lib.hid hq
  clear hq
  go_enter Tryd.func88, Tryd.ntmps88
  go_wp2_with fail
  go_loopw [7] (fun _ w' => ∃ pos : Nat, pos ≤ s.size ∧ w' = w.iter s pos ∧ Hid (g ∉ s.data.toList.take pos)) (fun _ w' => s.size - w'.iterPos w.heap.size)
  case atStart => exact ⟨0, by omega, rfl, Lib.hid (by simp)⟩
  case round =>
    obtain ⟨pos, hpl, rfl, h0⟩ := hrel
    by_cases hlt : pos < s.size
    · have hg0 := toL_get hlt
      have hge := congrArg UInt8.toNat (get_at s pos hlt)
      rw [Nat.add_zero] at hge
      obtain ⟨x, hx⟩ : ∃ x, (s[pos]'hlt).toNat = x := ⟨_, rfl⟩
      rw [hx] at hge
      by_cases hasc : x < 128
      · have hnx : ∀ ty, (Instr.next (.pointer (some ⟨w.heap.size, 0, none⟩)) true ty).run Tryd.prog (w.iter s pos) = .ok (.tuple #[.bool true, .int .i64 pos, .int .i32 (x : Int)]) (w.iter s (pos + 1)) := fun ty => by
          rw [run_next_any w s pos ty hlt, decode_ascii s pos hlt (by omega), hx]
        by_cases h47 : x = q
        · have HK := Lib.hid (show s.data.toList[pos]? = some g by rw [hg0]; congr 1; exact UInt8.toNat_inj.1 (by rw [hge, h47, HQ.out]))
          subst h47
          have hb1 : Below w.heap.size w (w.iter s (pos + 1)) := below_iter (Below.refl _ _) (Nat.le_refl _)
          clear hg0 hge hx
          have hw1 : IntKind.i64.wrap ((pos : Int) + 1) = (pos : Int) + 1 := IntWalk.i64_in _ ⟨by omega, by omega⟩
          have hp1 : (pos : Int) + 1 ≤ (s.size : Int) := by omega
          have hp2 : (pos : Int) ≤ (s.size : Int) := by omega
          have hp3 : (0 : Int) ≤ (pos : Int) := by omega
          have hp4 : (0 : Int) ≤ (pos : Int) + 1 := by omega
          have hn1 : ((pos : Int) + 1).toNat = pos + 1 := by omega
          go_wp2_with fail
          go_quiet (fail)
          have hx1 : (s.extract 0 pos).data.toList = s.data.toList.take pos := by rw [← ByteArray.toList_eq, Lib.extract_toList]; simp
          have hx2 : (s.extract (pos + 1) s.size).data.toList = s.data.toList.drop (pos + 1) := by
            rw [← ByteArray.toList_eq, Lib.extract_toList, List.take_of_length_le]
            rw [List.length_drop]
            exact Nat.le_refl _
          have hz1 : (s.extract 0 pos).size ≤ s.size := by
            have : (s.extract 0 pos).size = (s.data.toList.take pos).length := by rw [← hx1]; rfl
            rw [this, List.length_take]; omega
          have hz2 : (s.extract (pos + 1) s.size).size ≤ s.size := by
            have : (s.extract (pos + 1) s.size).size = (s.data.toList.drop (pos + 1)).length := by rw [← hx2]; rfl
            have h2 : s.data.toList.length = s.size := rfl
            rw [this, List.length_drop]; omega
          try go_wp2_with fail
          go_returns
          exact ⟨_, _, true, rfl, .inl ⟨rfl, pos, HK.out, h0.out, hx1, hx2⟩, hz1, hz2, by first | exact hb1 | exact hb1.drew | exact below_drewN hb1 _⟩
        · have HN := Lib.hid (no_sign_step (g := g) (e := pos + 1) h0.out (fun j j1 j2 => by rw [show j = pos by omega, hge, HQ.out]; exact h47))
          have ht1 : ((x : Int) == (q : Int)) = false := by simpa using (by omega : ¬ (x : Int) = q)
          clear hg0 hge hx
          go_wp2_with fail
          go_roundw
          case rel => exact ⟨pos + 1, by omega, rfl, HN⟩
          case measure => simp; omega
      · have hsp := decode_span s pos hlt (by omega)
        have hdh := decode_high s pos hlt (by omega)
        have hnx0 := fun ty => run_next_any (P := Tryd.prog) w s pos ty hlt
        obtain ⟨r, hr⟩ : ∃ r, (Utf8.decode s pos).1 = r := ⟨_, rfl⟩
        obtain ⟨wd, hwd⟩ : ∃ wd, (Utf8.decode s pos).2 = wd := ⟨_, rfl⟩
        rw [hr, hwd] at hdh
        rw [hr, hwd] at hnx0
        rw [hwd] at hsp
        have HN := Lib.hid (no_sign_step (g := g) (e := pos + wd) h0.out (fun j j1 j2 => by have := hsp.2 j j1 j2; have := HQ.out; omega))
        have hle := hsp.1
        have ht1 : ((r : Int) == (q : Int)) = false := by simpa using (by omega : ¬ (r : Int) = q)
        clear hr hwd hg0 hge hx hsp
        go_wp2_with fail
        go_roundw
        case rel => exact ⟨pos + wd, hle, rfl, HN⟩
        case measure => simp; omega
    · have hnx := fun ty => run_next_end (P := Tryd.prog) w s pos ty hlt
      have HN := Lib.hid (show g ∉ s.data.toList by have := h0.out; rwa [List.take_of_length_le (by show s.size ≤ pos; omega)] at this)
      have hb1 : Below w.heap.size w (w.iter s pos) := below_iter (Below.refl _ _) (Nat.le_refl _)
      go_wp2_with fail
      go_returns
      exact ⟨⟨#[]⟩, ⟨#[]⟩, false, rfl, .inr ⟨rfl, rfl, rfl, HN.out⟩, Nat.zero_le _, Nat.zero_le _, hb1⟩
end Go.Proofs.YtnhkpnohadbcdaaDoor
