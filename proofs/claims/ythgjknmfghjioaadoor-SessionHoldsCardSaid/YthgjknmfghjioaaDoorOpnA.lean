/- Walks of layer 6 (open): capabilities, and an OPEN's body; the document's. No conditions but sizes. -/
import Derived.Test.YthgjknmfghjioaaDoorProg
import Derived.WalkKit
import Derived.WalkSpells
import Derived.WalkLawsBesides
import Derived.Outline
import Derived.Deep.QuietTactic
import Derived.BigQuiet
import Derived.Handy
import Derived.Lib.Hide
import Derived.Test.YthgjknmfghjioaaDoorOpnPlain
import Derived.Test.YthgjknmfghjioaaDoorDeep
import Derived.Test.YthgjknmfghjioaaDoorRef01
namespace Go.Proofs.YthgjknmfghjioaaDoor
open Go.RowKit
set_option linter.unusedSimpArgs false
set_option linter.unusedVariables false
/-- A capability in cells. -/
def rCap : Rep Cap := fun w S cs x => ∃ (A : Option Addr) (n c : Nat), cs = [.int .i64 x.1, .slice A n c] ∧ BF w S A n x.2 ∧ n ≤ c
theorem rCap_ok : rCap.Ok 2 where
  len := by rintro w S cs a ⟨A, n, c, rfl, _⟩; rfl
  one := by
    rintro w S cs a ⟨A, n, c, rfl, _⟩ u hu
    simp at hu
    rcases hu with rfl | rfl <;> rfl
  keep := by
    rintro w w' S S' cs a ⟨A, n, c, rfl, h, hc⟩ hk
    exact ⟨A, n, c, rfl, h.keep hk, hc⟩
theorem DL.capAt {w : World} {S : Nat → Prop} {A : Option Addr} {n : Nat} {l : List Cap} (h : DL rCap 2 w S A n l) {j : Nat} {x : Cap} (hj : l[j]? = some x) :
    ∃ b off A' n' c', A = some ⟨b, off, none⟩ ∧ S b ∧ w.cell? ⟨b, off + j * 2, none⟩ = some (.int .i64 x.1) ∧ w.cell? ⟨b, off + j * 2 + 1, none⟩ = some (.slice A' n' c') ∧ BF w S A' n' x.2 ∧ n' ≤ c' := by
  obtain ⟨b, off, cs, e, hb, _, hc, A', n', c', rfl, h1, h2⟩ := h.at_ hj
  exact ⟨b, off, A', n', c', e, hb, by simpa using hc 0 _ rfl, by simpa using hc 1 _ rfl, h1, h2⟩
theorem getC {l : List Cap} {j n : Nat} (hn : n = l.length) (hj : j < n) : ∃ x, l[j]? = some x := ⟨_, List.getElem?_eq_getElem (by omega)⟩
def fewC (l : List Cap) : Bool := decide (l.length ≤ 200) && l.all fun c => decide (c.2.length ≤ 500)
theorem fewC_bad {l : List Cap} {j : Nat} {c : Cap} (h : l[j]? = some c) (hc : 500 < c.2.length) : fewC l = false := by
  unfold fewC
  rw [List.all_eq_false.2 ⟨c, List.mem_of_getElem? h, by simp; omega⟩, Bool.and_false]
theorem fewC_all {l : List Cap} (hl : l.length ≤ 200) (h : ∀ (i : Nat) (c : Cap), i < l.length → l[i]? = some c → c.2.length ≤ 500) : fewC l = true := by
  unfold fewC
  rw [List.all_eq_true.2 (fun c hc => by obtain ⟨i, hi⟩ := List.getElem?_of_mem hc; exact decide_eq_true (h i c (List.getElem?_eq_some_iff.1 hi).1 hi)), Bool.and_true]
  exact decide_eq_true hl
theorem fewC_of {l : List Cap} (h : fewC l = true) : l.length ≤ 200 ∧ ∀ c ∈ l, c.2.length ≤ 500 := by
  unfold fewC at h
  rw [Bool.and_eq_true, decide_eq_true_eq] at h
  exact ⟨h.1, fun c hc => by simpa using List.all_eq_true.1 h.2 c hc⟩
/-- Bytes and a bool: the capabilities' bytes, or that they may not be. -/
def RetOCB (w : World) (l : List Cap) (e : Ending) (w' : World) : Prop := ∃ (A : Option Addr) (n c : Nat) (L : List UInt8), e = .returned (.tuple #[.slice A n c, .bool (capsOk l)]) ∧ OB w' 5 w.heap.size A n c L ∧ (capsOk l = true → L = capsB l) ∧ L.length ≤ 600 ∧ Below w.heap.size w w'
set_option maxHeartbeats 2000000 in
set_option maxRecDepth 100000 in
theorem openCapsBytes (A : Option Addr) (n c : Nat) (l : List Cap) (w : World) (hd : DL rCap 2 w (Lo w) A n l) (hn : n ≤ 100000) :
    Calls Tryd.prog 37 #[.slice A n c] w (RetOCB w l) := by
  have HN := Lib.hid hd.len
  go_enter Tryd.func37, Tryd.ntmps37
  go_wp2_with fail
  go_loopw [4, 9] (fun v i wr => ∃ (j : Nat) (A1 : Option Addr) (n1 c1 : Nat), j ≤ n ∧ i = .int .i64 j ∧ v = .slice A1 n1 c1 ∧ OB wr 5 w.heap.size A1 n1 c1 (capsB (l.take j)) ∧ n1 ≤ 600 ∧ Below w.heap.size w wr ∧ Hid (∀ (i : Nat) (c : Cap), i < j → l[i]? = some c → capOk c = true)) (fun _ i _ => n - (intOf i).toNat)
  case atStart => exact ⟨0, none, 0, 0, by omega, rfl, rfl, OB.nil_, by omega, Below.refl _ _, Lib.hid fun i c h => by omega⟩
  case round =>
    obtain ⟨j, A1, n1, c1, hj, rfl, rfl, o1, hn1, b1, hok⟩ := hrel
    have HL1 := Lib.hid o1.1
    by_cases hlt : j < n
    · obtain ⟨x, hx⟩ := getC HN.out hlt
      have e2 : decide ((j : Int) < n) = true := decide_eq_true (by omega)
      obtain ⟨b, off, A', n', c', rfl, hb, k0, k1, hbf, hnc'⟩ := (hd.below rCap_ok b1).capAt hx
      obtain ⟨code, data⟩ := x
      have HX := Lib.hid hx
      have HLd := Lib.hid hbf.1
      have HS := Lib.hid (capsB_snoc hx)
      have HB := Lib.hid (fun h => capsOk_bad hx h)
      have HO := Lib.hid (show capOk (code, data) = decide (0 ≤ code ∧ code ≤ 255 ∧ n' ≤ 253) by unfold capOk; rw [← HLd.out])
      clear hx
      simp only at HLd HS k0 hbf
      by_cases hbad : code < 0 ∨ 255 < code ∨ 253 < n' ∨ 253 < n1
      · have HF := Lib.hid (show capsOk l = false by
          by_cases h1 : 253 < n1
          · exact capsOk_long (j := j) (by rw [← HL1.out]; exact h1)
          · exact HB.out (by rw [HO.out]; exact decide_eq_false (by omega)))
        have HE := Lib.hid (show ∀ wx : World, Below w.heap.size w wx → RetOCB w l (.returned (.tuple #[.slice none 0 0, .bool false])) wx from fun wx hwx => ⟨none, 0, 0, [], by rw [HF.out], OB.nil_, (fun h => by rw [HF.out] at h; cases h), by simp, hwx⟩)
        rcases hbad with h1 | h1 | h1 | h1
        · have t1 : decide (code < 0) = true := decide_eq_true h1
          go_wp2_with fail
          go_ret2
          exact HE.out _ (b1.alloc b1.size _)
        · have t1 : decide (code < 0) = false := decide_eq_false (by omega)
          have t2 : decide (255 < code) = true := decide_eq_true h1
          go_wp2_with fail
          go_ret2
          exact HE.out _ (b1.alloc b1.size _)
        · by_cases h0 : code < 0
          · have t1 : decide (code < 0) = true := decide_eq_true h0
            go_wp2_with fail
            go_ret2
            exact HE.out _ (b1.alloc b1.size _)
          by_cases h2 : 255 < code
          · have t1 : decide (code < 0) = false := decide_eq_false h0
            have t2 : decide (255 < code) = true := decide_eq_true h2
            go_wp2_with fail
            go_ret2
            exact HE.out _ (b1.alloc b1.size _)
          have t1 : decide (code < 0) = false := decide_eq_false h0
          have t2 : decide (255 < code) = false := decide_eq_false h2
          have t3 : decide (253 < (n' : Int)) = true := decide_eq_true (by omega)
          go_wp2_with fail
          go_ret2
          exact HE.out _ (b1.alloc b1.size _)
        · by_cases h0 : code < 0
          · have t1 : decide (code < 0) = true := decide_eq_true h0
            go_wp2_with fail
            go_ret2
            exact HE.out _ (b1.alloc b1.size _)
          by_cases h2 : 255 < code
          · have t1 : decide (code < 0) = false := decide_eq_false h0
            have t2 : decide (255 < code) = true := decide_eq_true h2
            go_wp2_with fail
            go_ret2
            exact HE.out _ (b1.alloc b1.size _)
          have t1 : decide (code < 0) = false := decide_eq_false h0
          have t2 : decide (255 < code) = false := decide_eq_false h2
          by_cases h3 : 253 < n'
          · have t3 : decide (253 < (n' : Int)) = true := decide_eq_true (by omega)
            go_wp2_with fail
            go_ret2
            exact HE.out _ (b1.alloc b1.size _)
          have t3 : decide (253 < (n' : Int)) = false := decide_eq_false (by omega)
          have t4 : decide (253 < (n1 : Int)) = true := decide_eq_true (by omega)
          go_wp2_with fail
          go_ret2
          exact HE.out _ (b1.alloc b1.size _)
      · have t1 : decide (code < 0) = false := decide_eq_false (by omega)
        have t2 : decide (255 < code) = false := decide_eq_false (by omega)
        have t3 : decide (253 < (n' : Int)) = false := decide_eq_false (by omega)
        have t4 : decide (253 < (n1 : Int)) = false := decide_eq_false (by omega)
        have hc0 : 0 ≤ code := by omega
        have hc1 : code ≤ 255 := by omega
        have hn' : (n' : Int) ≤ 253 := by omega
        have HOK := Lib.hid (show capOk (code, data) = true by rw [HO.out]; exact decide_eq_true (by omega))
        have w1 : IntKind.u8.wrap code = code := by rw [IntKind.wrap_u8]; omega
        have w2 : IntKind.u8.wrap (n' : Int) = n' := by rw [IntKind.wrap_u8]; omega
        obtain ⟨L, hL⟩ : ∃ L, capsB (l.take j) = L := ⟨_, rfl⟩
        rw [hL] at o1 HS HL1
        have HBN := Lib.hid hbad
        clear hL hbad
        have hs1 := b1.size
        have HLs := Lib.hid (show L.length ≤ 600 by rw [← HL1.out]; exact hn1)
        have HLd2 := Lib.hid (show data.length ≤ 253 by rw [← HLd.out]; omega)
        go_wp2_with (first
          | (at_builtin; refine wpl_app rfl (.tmp 32) (.tmp 40) _ rfl 5 Tryd.underlying34 u8info w.heap.size A1 n1 c1 L (by rfl) ((o1.alloc _).alloc _) (wr.heap.size + 1 + 1) (some ⟨wr.heap.size + 1, 0, none⟩) 2 2 [ub code, ub (n' : Int)] (by rfl) (BS.vals (wr.alloc _) 5 [code, (n' : Int)] (by intro y hy; simp at hy; rcases hy with rfl | rfl <;> omega) (by simp)) (by have := HLs.out; simp; omega) (by simp; omega) ?_; intro A2 n2 c2 w2 o2 b2 g2; have bb := (((Below.refl w.heap.size wr).alloc hs1 (.cells #[.int .i64 code, .slice A' n' c'] 85)).alloc (by simp; omega) (.cells #[.int .u8 code, .int .u8 n'] 5)).trans b2; have hcB := ((Blk.new wr 85 #[.int .i64 code, .slice A' n' c']).alloc (.cells #[.int .u8 code, .int .u8 n'] 5)).grown g2 (by intro e; have := (o1.2.lt _ e.symm).2; omega); have k2 := hcB.cell 1)
          | (at_builtin; refine wpl_app rfl (.tmp 42) (.tmp 44) _ rfl 5 Tryd.underlying34 u8info w.heap.size A2 n2 c2 _ (by rfl) o2 w.heap.size A' n' c' data (by rfl) ((hbf.keep (Kp.lt bb)).lt) (by have := HLs.out; have := HLd2.out; simp; omega) (Nat.le_trans hs1 bb.size) ?_; intro A3 n3 c3 w3 o3 b3 _))
        go_roundw
        case rel => exact ⟨j + 1, A3, n3, c3, by omega, by go_num, rfl, by rw [HS.out, ← HLd.out]; exact o3, by have h9 := o3.1; have := HBN.out; have := HLd2.out; have := HL1.out; simp at h9; omega, b1.trans (bb.trans b3), Lib.hid fun i c h1 h2 => by
          rcases Nat.lt_or_ge i j with h3 | h3
          · exact hok.out i c h3 h2
          · rw [show i = j by omega, HX.out] at h2
            injection h2 with h2
            subst h2
            exact HOK.out⟩
        case measure => simp [intOf]; omega
    · have e2 : decide ((j : Int) < n) = false := decide_eq_false (by omega)
      have hj' : j = n := by omega
      have HT := Lib.hid (show capsB (l.take j) = capsB l by rw [List.take_of_length_le (by have := HN.out; omega)])
      have HO := Lib.hid (show capsOk l = decide ((n1 : Int) ≤ 253) by
        rw [capsOk_all (fun i c h => hok.out i c (by have := HN.out; have := (List.getElem?_eq_some_iff.1 h).1; omega) h), ← HT.out, ← HL1.out, Bool.eq_iff_iff, decide_eq_true_eq, decide_eq_true_eq]
        omega)
      rw [HT.out] at o1 HL1
      clear hj'
      by_cases hle : (n1 : Int) ≤ 253
      · have t1 : decide ((n1 : Int) ≤ 253) = true := decide_eq_true hle
        have HE := Lib.hid (show RetOCB w l (.returned (.tuple #[.slice A1 n1 c1, .bool true])) wr from ⟨A1, n1, c1, capsB l, by rw [HO.out, t1], o1, fun _ => rfl, by rw [← HL1.out]; exact hn1, b1⟩)
        go_wp2_with fail
        go_ret2
        exact HE.out
      · have t1 : decide ((n1 : Int) ≤ 253) = false := decide_eq_false hle
        have HE := Lib.hid (show RetOCB w l (.returned (.tuple #[.slice A1 n1 c1, .bool false])) wr from ⟨A1, n1, c1, capsB l, by rw [HO.out, t1], o1, fun _ => rfl, by rw [← HL1.out]; exact hn1, b1⟩)
        go_wp2_with fail
        go_ret2
        exact HE.out
end Go.Proofs.YthgjknmfghjioaaDoor
