/- Walks of layer 4 (attributes): an attribute's bytes; whether a path has a wide number. Conditions: the table of looks. -/
import Derived.Test.YtlpkngjeihoknaaDoorProg
import Derived.WalkKit
import Derived.WalkSpells
import Derived.WalkLawsBesides
import Derived.Outline
import Derived.Deep.QuietTactic
import Derived.BigQuiet
import Derived.Handy
import Derived.Lib.Hide
import Derived.Deep.DeepCutAuto
import Derived.Deep.CutBlock
import Derived.Test.YtlpkngjeihoknaaDoorAspI
import Derived.Test.YtlpkngjeihoknaaDoorAttC
namespace Go.Proofs.YtlpkngjeihoknaaDoor
open Go.RowKit
set_option linter.unusedSimpArgs false
set_option linter.unusedVariables false
/-- Bytes of a literal, of the call's own. -/
theorem OB.vals (w : World) (T : Nat) (xs : List Int) (h : ∀ x ∈ xs, 0 ≤ x ∧ x ≤ 255) (hn : xs.length ≤ 1000) {base g : Nat} (hg : g = w.heap.size) (hb : base ≤ w.heap.size) : OB (w.alloc (.cells (xs.map (Value.int .u8)).toArray T)) T base (some ⟨g, 0, none⟩) xs.length xs.length (xs.map ub) := by
  subst hg
  have e : bv (xs.map ub) = xs.map (Value.int .u8) := by
    rw [bv, List.map_map]
    refine List.map_congr_left fun x hx => ?_
    simp only [Function.comp]
    rw [ub_toNat (h x hx).1 (h x hx).2]
  refine ⟨by simp, ?_⟩
  rw [e]
  refine ⟨by simp, .inr ⟨w.heap.size, xs.length, (xs.map (Value.int .u8)).toArray, rfl, hb, Blk.new w T _, Nat.le_refl _, by unfold maxLen; omega, by simp, ?_⟩⟩
  rw [List.take_of_length_le (by simp)]
/-- An attribute's bytes. -/
def attrB (fl kind : Int) (v : List UInt8) : List UInt8 := (if 255 < v.length then [ub (fl + 16), ub kind] ++ b16 (v.length : Int) else [ub fl, ub kind, ub (v.length : Int)]) ++ v
theorem attrB_len (fl kind : Int) (v : List UInt8) : (attrB fl kind v).length ≤ v.length + 4 := by
  unfold attrB b16
  split <;> simp <;> omega
set_option maxHeartbeats 4000000 in
set_option maxRecDepth 100000 in
theorem attWhole (fl kind : Int) (A : Option Addr) (n c : Nat) (v : List UInt8) (w : World) (h : BS w w.heap.size A n v) (hfl : fl = 64 ∨ fl = 128 ∨ fl = 192 ∨ fl = 224) (hk0 : 0 ≤ kind) (hk1 : kind ≤ 255) (hn : v.length ≤ 60000) :
    Calls Tryd.prog 95 #[.int .i64 fl, .int .i64 kind, .slice A n c] w (RetB w 5 (attrB fl kind v)) := by
  have HN := Lib.hid h.1
  have wk : IntKind.u8.wrap kind = kind := by rw [IntKind.wrap_u8]; omega
  have hn' : n ≤ 60000 := by have := HN.out; omega
  by_cases hb : 255 < n
  · have e1 : decide ((255 : Int) < (n : Int)) = true := decide_eq_true (by omega)
    have e1' : decide (255 < n) = true := decide_eq_true hb
    have HE := Lib.hid (show attrB fl kind v = [ub (fl + 16), ub kind] ++ b16 (n : Int) ++ v by unfold attrB; rw [if_pos (by have := HN.out; omega), ← HN.out])
    clear hb
    rcases hfl with rfl | rfl | rfl | rfl
    · have bv := BS.vals w 5 [80, kind] (by intro x hx; simp at hx; omega) rfl
      have ba := (Below.refl w.heap.size w).alloc (Nat.le_refl _) (.cells #[.int .u8 80, .int .u8 kind] 5)
      have HC := Lib.hid (octetPut16 (some ⟨w.heap.size, 0, none⟩) 2 2 [ub 80, ub kind] (n : Int) (w.alloc (.cells #[.int .u8 80, .int .u8 kind] 5)) (bv.more (by simp)) (by simp))
      clear bv
      go_enter Tryd.func95, Tryd.ntmps95
      go_wp2_with fail
      refine HC.out.mono ?_
      rintro _ w2 ⟨A2, n2, c2, rfl, o2, b2⟩
      have b02 := btr ba b2 ba.size
      have h2 := h.below b02
      have o2 := o2.low ba.size
      have HB := Lib.hid b02.size
      go_wp2_with (at_builtin; refine wpl_app rfl (.tmp 28) (.tmp 29) _ rfl 5 Tryd.underlying40 u8info w.heap.size A2 n2 c2 _ (by rfl) o2 w.heap.size A n c v (by rfl) h2 (by simp [b16]; omega) HB.out ?_; intro A3 n3 c3 w3 o3 b3 g3)
      go_ret
      exact ⟨A3, n3, c3, rfl, by rw [HE.out]; exact o3, b02.trans b3⟩
    · have bv := BS.vals w 5 [144, kind] (by intro x hx; simp at hx; omega) rfl
      have ba := (Below.refl w.heap.size w).alloc (Nat.le_refl _) (.cells #[.int .u8 144, .int .u8 kind] 5)
      have HC := Lib.hid (octetPut16 (some ⟨w.heap.size, 0, none⟩) 2 2 [ub 144, ub kind] (n : Int) (w.alloc (.cells #[.int .u8 144, .int .u8 kind] 5)) (bv.more (by simp)) (by simp))
      clear bv
      go_enter Tryd.func95, Tryd.ntmps95
      go_wp2_with fail
      refine HC.out.mono ?_
      rintro _ w2 ⟨A2, n2, c2, rfl, o2, b2⟩
      have b02 := btr ba b2 ba.size
      have h2 := h.below b02
      have o2 := o2.low ba.size
      have HB := Lib.hid b02.size
      go_wp2_with (at_builtin; refine wpl_app rfl (.tmp 28) (.tmp 29) _ rfl 5 Tryd.underlying40 u8info w.heap.size A2 n2 c2 _ (by rfl) o2 w.heap.size A n c v (by rfl) h2 (by simp [b16]; omega) HB.out ?_; intro A3 n3 c3 w3 o3 b3 g3)
      go_ret
      exact ⟨A3, n3, c3, rfl, by rw [HE.out]; exact o3, b02.trans b3⟩
    · have bv := BS.vals w 5 [208, kind] (by intro x hx; simp at hx; omega) rfl
      have ba := (Below.refl w.heap.size w).alloc (Nat.le_refl _) (.cells #[.int .u8 208, .int .u8 kind] 5)
      have HC := Lib.hid (octetPut16 (some ⟨w.heap.size, 0, none⟩) 2 2 [ub 208, ub kind] (n : Int) (w.alloc (.cells #[.int .u8 208, .int .u8 kind] 5)) (bv.more (by simp)) (by simp))
      clear bv
      go_enter Tryd.func95, Tryd.ntmps95
      go_wp2_with fail
      refine HC.out.mono ?_
      rintro _ w2 ⟨A2, n2, c2, rfl, o2, b2⟩
      have b02 := btr ba b2 ba.size
      have h2 := h.below b02
      have o2 := o2.low ba.size
      have HB := Lib.hid b02.size
      go_wp2_with (at_builtin; refine wpl_app rfl (.tmp 28) (.tmp 29) _ rfl 5 Tryd.underlying40 u8info w.heap.size A2 n2 c2 _ (by rfl) o2 w.heap.size A n c v (by rfl) h2 (by simp [b16]; omega) HB.out ?_; intro A3 n3 c3 w3 o3 b3 g3)
      go_ret
      exact ⟨A3, n3, c3, rfl, by rw [HE.out]; exact o3, b02.trans b3⟩
    · have bv := BS.vals w 5 [240, kind] (by intro x hx; simp at hx; omega) rfl
      have ba := (Below.refl w.heap.size w).alloc (Nat.le_refl _) (.cells #[.int .u8 240, .int .u8 kind] 5)
      have HC := Lib.hid (octetPut16 (some ⟨w.heap.size, 0, none⟩) 2 2 [ub 240, ub kind] (n : Int) (w.alloc (.cells #[.int .u8 240, .int .u8 kind] 5)) (bv.more (by simp)) (by simp))
      clear bv
      go_enter Tryd.func95, Tryd.ntmps95
      go_wp2_with fail
      refine HC.out.mono ?_
      rintro _ w2 ⟨A2, n2, c2, rfl, o2, b2⟩
      have b02 := btr ba b2 ba.size
      have h2 := h.below b02
      have o2 := o2.low ba.size
      have HB := Lib.hid b02.size
      go_wp2_with (at_builtin; refine wpl_app rfl (.tmp 28) (.tmp 29) _ rfl 5 Tryd.underlying40 u8info w.heap.size A2 n2 c2 _ (by rfl) o2 w.heap.size A n c v (by rfl) h2 (by simp [b16]; omega) HB.out ?_; intro A3 n3 c3 w3 o3 b3 g3)
      go_ret
      exact ⟨A3, n3, c3, rfl, by rw [HE.out]; exact o3, b02.trans b3⟩
  · have e1 : decide ((255 : Int) < (n : Int)) = false := decide_eq_false (by omega)
    have e1' : decide (255 < n) = false := decide_eq_false hb
    have HE := Lib.hid (show attrB fl kind v = [ub fl, ub kind, ub (n : Int)] ++ v by unfold attrB; rw [if_neg (by have := HN.out; omega), ← HN.out])
    have wn : IntKind.u8.wrap (n : Int) = (n : Int) := by rw [IntKind.wrap_u8]; omega
    have wf : IntKind.u8.wrap fl = fl := by rw [IntKind.wrap_u8]; rcases hfl with rfl | rfl | rfl | rfl <;> decide
    have hf0 : 0 ≤ fl ∧ fl ≤ 255 := by rcases hfl with rfl | rfl | rfl | rfl <;> decide
    have hn255 : n ≤ 255 := by omega
    obtain ⟨hf0, hf1⟩ := hf0
    clear hb hfl
    have ov := OB.vals w 5 [fl, kind, (n : Int)] (by intro x hx; simp at hx; omega) (by simp) rfl (Nat.le_refl _)
    have ba := (Below.refl w.heap.size w).alloc (Nat.le_refl _) (.cells #[.int .u8 fl, .int .u8 kind, .int .u8 (n : Int)] 5)
    have h1 := h.below ba
    go_enter Tryd.func95, Tryd.ntmps95
    go_wp2_with (at_builtin; refine wpl_app rfl (.tmp 28) (.tmp 29) _ rfl 5 Tryd.underlying40 u8info w.heap.size (some ⟨w.heap.size, 0, none⟩) 3 3 _ (by rfl) ov w.heap.size A n c v (by rfl) h1 (by simp; omega) (by simp) ?_; intro A3 n3 c3 w3 o3 b3 g3)
    go_ret
    exact ⟨A3, n3, c3, rfl, by rw [HE.out]; exact o3, ba.trans b3⟩
/-- Whether numbers hold a wide one. -/
def bigN (l : List Int) : Bool := l.any fun y => decide (65535 < y)
set_option maxHeartbeats 1000000 in
theorem wideOne (y : Int) (w : World) : Calls Tryd.prog 122 #[.int .u32 y] w fun en w' => en = .returned (.bool (decide (65535 < y))) ∧ w = w' := by
  by_cases h : 65535 < y
  · have e : decide (65535 < y) = true := decide_eq_true h
    have HE := Lib.hid e
    clear h
    go_enter Tryd.func122, Tryd.ntmps122
    go_wp2_with fail
    go_ret
    exact ⟨ret_b (by first | exact HE.out.symm | rfl), rfl⟩
  · have e : decide (65535 < y) = false := decide_eq_false h
    have HE := Lib.hid e
    clear h
    go_enter Tryd.func122, Tryd.ntmps122
    go_wp2_with fail
    go_ret
    exact ⟨ret_b (by first | exact HE.out.symm | rfl), rfl⟩
set_option maxHeartbeats 4000000 in
set_option maxRecDepth 100000 in
theorem idxWide (A : Option Addr) (n c : Nat) (l : List Int) (w : World) (B : Nat) (h : NS .u32 w B A n l) (hbd : n ≤ 35184372088832) :
    Calls Tryd.prog 134 #[.slice A n c, .func (.func 122) #[] #[]] w fun en w' => (∃ v : Int, en = .returned (.int .i64 v) ∧ decide (0 ≤ v) = bigN l) ∧ w = w' := by
  have HN := Lib.hid h.1
  go_enter Tryd.func134, Tryd.ntmps134
  go_wp2_with fail
  go_loopw [8] (fun i wr => ∃ j : Nat, j ≤ n ∧ i = .int .i64 j ∧ wr = w ∧ Hid (∀ i y, i < j → l[i]? = some y → y ≤ 65535)) (fun i _ => n - (intOf i).toNat)
  case atStart => exact ⟨0, by omega, rfl, rfl, Lib.hid fun i y h => by omega⟩
  case round =>
    obtain ⟨j, hj, rfl, rfl, hno⟩ := hrel
    by_cases hlt : j < n
    · obtain ⟨b, off, rfl, hbw, hcw⟩ := h.form hlt
      have hd : decide ((j : Int) < n) = true := decide_eq_true (by omega)
      have hlti : (j : Int) < n := by omega
      have wj : IntKind.i64.wrap ((j : Int) + 1) = (j : Int) + 1 := IntWalk.i64_in _ ⟨by omega, by omega⟩
      have hlj : j < l.length := by have := HN.out; omega
      obtain ⟨y, hy⟩ : ∃ y, l[j]? = some y := ⟨_, List.getElem?_eq_getElem hlj⟩
      rw [hy, Option.getD_some] at hcw
      have HY := Lib.hid hy
      clear hy hlj
      obtain ⟨r, hr⟩ : ∃ r, decide (65535 < y) = r := ⟨_, rfl⟩
      have HC := Lib.hid (show ∀ w', Calls Tryd.prog 122 #[.int .u32 y] w' fun en w'' => en = .returned (.bool r) ∧ w' = w'' from fun w' => by rw [← hr]; exact wideOne y w')
      have HR := Lib.hid hr
      clear hr
      go_wp2_with fail
      refine (HC.out _).mono ?_
      rintro _ _ ⟨rfl, rfl⟩
      cases r
      · have HS := Lib.hid (show ∀ i z, i < j + 1 → l[i]? = some z → z ≤ 65535 from fun i z hi hz => by
          rcases Nat.lt_or_ge i j with h1 | h1
          · exact hno.out i z h1 hz
          · have : i = j := by omega
            subst this
            rw [HY.out] at hz
            injection hz with hz
            subst hz
            have := of_decide_eq_false HR.out
            omega)
        go_wp2_with fail
        go_roundw
        case rel => exact ⟨j + 1, by omega, by go_num, (by first | rfl | trivial), HS⟩
        case measure => simp [intOf]; omega
      · have HG := Lib.hid (show bigN l = true from List.any_eq_true.2 ⟨y, List.mem_of_getElem? HY.out, HR.out⟩)
        go_wp2_with fail
        go_ret
        exact ⟨⟨j, rfl, by rw [HG.out]; exact decide_eq_true (by omega)⟩, rfl⟩
    · have hd : decide ((j : Int) < n) = false := decide_eq_false (by omega)
      have HG := Lib.hid (show bigN l = false from List.any_eq_false.2 fun y hy => by
        obtain ⟨i, hi⟩ := List.getElem?_of_mem hy
        have := hno.out i y (by have := (List.getElem?_eq_some_iff.1 hi).1; have := HN.out; omega) hi
        simpa using this)
      go_wp2_with fail
      go_ret
      exact ⟨⟨-1, rfl, by rw [HG.out]; decide⟩, rfl⟩
set_option maxHeartbeats 1000000 in
set_option maxRecDepth 100000 in
theorem wideAny (A : Option Addr) (n c : Nat) (l : List Int) (w : World) (B : Nat) (h : NS .u32 w B A n l) (hbd : n ≤ 35184372088832) :
    Calls Tryd.prog 121 #[.slice A n c, .func (.func 122) #[] #[]] w fun en w' => en = .returned (.bool (bigN l)) ∧ w = w' := by
  go_enter Tryd.func121, Tryd.ntmps121
  go_wp2_with fail
  refine (idxWide A n c l _ B h hbd).mono ?_
  rintro _ _ ⟨⟨v, rfl, hv⟩, rfl⟩
  have HV := Lib.hid hv
  clear hv
  go_wp2_with fail
  go_ret
  exact ⟨ret_b HV.out, rfl⟩
set_option maxHeartbeats 1000000 in
set_option maxRecDepth 100000 in
theorem attWide (A : Option Addr) (n c : Nat) (l : List Seg) (w : World) (hd : DL rSeg 2 w (Lo w) A n l) (hn : n ≤ 100000) (hs : Hid (sumN l ≤ big32)) :
    Calls Tryd.prog 97 #[.slice A n c] w fun en w' => en = .returned (.bool (bigN (flatA l))) ∧ Below w.heap.size w w' := by
  go_enter Tryd.func97, Tryd.ntmps97
  go_wp2_with fail
  refine (aspFlat A n c l _ hd hn hs).mono ?_
  rintro _ w1 ⟨A1, n1, c1, rfl, o1, b1⟩
  have HB := Lib.hid (show n1 ≤ 35184372088832 by have h1 := o1.1; have h2 := flatA_len l; have h3 := hs.out; unfold big32 at h3; omega)
  have hns := Lib.hid o1.ns
  clear o1
  go_wp2_with fail
  refine (wideAny A1 n1 c1 _ _ _ hns.out HB.out).mono ?_
  rintro _ _ ⟨rfl, rfl⟩
  go_wp2_with fail
  go_ret
  exact ⟨rfl, b1⟩
/-- A number of two bytes. -/
def nrwA (y : Int) : Int := if 65535 < y then 23456 else y
set_option maxHeartbeats 1000000 in
theorem attNarrow (y : Int) (w : World) (h0 : 0 ≤ y) (h1 : y < 4294967296) : Calls Tryd.prog 96 #[.int .u32 y] w fun en w' => en = .returned (.int .i64 (nrwA y)) ∧ w = w' := by
  have w1 : IntKind.i64.wrap y = y := IntWalk.i64_in _ ⟨by omega, by omega⟩
  by_cases h : 65535 < y
  · have e : decide (65535 < y) = true := decide_eq_true h
    have HE := Lib.hid (show nrwA y = 23456 by unfold nrwA; rw [if_pos h])
    clear h h0 h1
    go_enter Tryd.func96, Tryd.ntmps96
    go_wp2_with fail
    go_ret
    exact ⟨by rw [HE.out]; rfl, rfl⟩
  · have e : decide (65535 < y) = false := decide_eq_false h
    have HE := Lib.hid (show nrwA y = y by unfold nrwA; rw [if_neg h])
    clear h
    go_enter Tryd.func96, Tryd.ntmps96
    go_wp2_with fail
    go_ret
    exact ⟨by rw [HE.out]; rfl, rfl⟩
end Go.Proofs.YtlpkngjeihoknaaDoor
