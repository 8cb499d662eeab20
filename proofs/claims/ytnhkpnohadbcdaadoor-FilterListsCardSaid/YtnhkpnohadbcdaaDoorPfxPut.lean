/- Walks of layer 2 (prefix): Put; the example of the laws. Conditions: the table of digits (DigTab). -/
import Derived.Test.YtnhkpnohadbcdaaDoorProg
import Derived.WalkKit
import Derived.WalkSpells
import Derived.WalkLawsBesides
import Derived.Outline
import Derived.Deep.QuietTactic
import Derived.BigQuiet
import Derived.Handy
import Derived.Lib.Hide
import Derived.Deep.RegionHeld3
import Derived.Test.YtnhkpnohadbcdaaDoorPfxQR
import Derived.Test.YtnhkpnohadbcdaaDoorReaderB
namespace Go.Proofs.YtnhkpnohadbcdaaDoor
open Go.RowKit
/-- A prefix's bytes. -/
def pBytes (a k : Nat) : List UInt8 := (ub (k : Int) :: b32 (a : Int)).take (1 + (k + 7) / 8)
def RetPut (w : World) (l : List UInt8) (x : Int) (e : Ending) (w' : World) : Prop := ∃ (A : Option Addr) (n c : Nat), e = .returned (.tuple #[.slice A n c, .int .i64 x]) ∧ OB w' 5 w.heap.size A n c l ∧ Below w.heap.size w w'
set_option maxHeartbeats 1000000 in
set_option maxRecDepth 100000 in
theorem prefixPut_no (A : Option Addr) (n c : Nat) (a : Nat) (ha : a < 4294967296) (m : Int) (w : World) (hr : pRight a m = false) :
    Calls Tryd.prog 54 #[.slice A n c, .agg #[.int .u32 a, .int .i64 m]] w (RetPut w [] 1) := by
  have hB := Blk.new w 24 #[.int .u32 a, .int .i64 m]
  have c0 := hB.cell 0
  have c1 := hB.cell 1
  have b0 := (Below.refl w.heap.size w).alloc (Nat.le_refl _) (.cells #[.int .u32 a, .int .i64 m] 24)
  go_enter Tryd.func54, Tryd.ntmps54
  go_wp2_with fail
  refine (prefixRight a ha m _).mono ?_
  rw [hr]
  rintro _ w1 ⟨rfl, b1⟩
  have b01 := btr b0 b1 b0.size
  go_wp2_with fail
  go_ret2
  exact ⟨none, 0, 0, rfl, OB.nil_, b01⟩
theorem keep1d {w W W' : World} {g : Nat} {y : Value} (hg : g < w.heap.size) (hb : Below w.heap.size W W') (h : Below w.heap.size w W ∧ W.cell? ⟨g, 1, none⟩ = some y) :
    Below w.heap.size w W' ∧ W'.cell? ⟨g, 1, none⟩ = some y :=
  ⟨h.1.trans hb, (hb.cell hg).trans h.2⟩
theorem keep1c {w W W' : World} {g : Nat} {y : Value} (hg : g < w.heap.size) (hb : Below W.heap.size W W') (h : Below w.heap.size w W ∧ W.cell? ⟨g, 1, none⟩ = some y) :
    Below w.heap.size w W' ∧ W'.cell? ⟨g, 1, none⟩ = some y :=
  have hs := h.1.size
  ⟨btr h.1 hb hs, (hb.cell (show g < _ by omega)).trans h.2⟩
set_option maxHeartbeats 1000000 in
set_option maxRecDepth 100000 in
theorem prefixPut_yes (A : Option Addr) (n c : Nat) (l : List UInt8) (a : Nat) (ha : a < 4294967296) (k : Nat) (hk : k ≤ 32) (w : World) (h : BS w w.heap.size A n l) (hn : n ≤ 100000) (hr : pRight a (k : Int) = true) :
    Calls Tryd.prog 54 #[.slice A n c, .agg #[.int .u32 a, .int .i64 k]] w (RetPut w (l ++ pBytes a k) 0) := by
  have hB := Blk.new w 24 #[.int .u32 a, .int .i64 k]
  have c0 := hB.cell 0
  have c1 := hB.cell 1
  have b0 := (Below.refl w.heap.size w).alloc (Nat.le_refl _) (.cells #[.int .u32 a, .int .i64 k] 24)
  have HL := Lib.hid h.len
  go_enter Tryd.func54, Tryd.ntmps54
  go_wp2_with fail
  refine (prefixRight a ha k _).mono ?_
  rw [hr]
  rintro _ w1 ⟨rfl, b1⟩
  have b01 := btr b0 b1 b0.size
  have hB1 := hB.below b1 hB.lt
  have x0 := hB1.cell 0
  have x1 := hB1.cell 1
  have k2 := (Below.refl w1.heap.size w1).alloc (Nat.le_refl _) (.cells #[.int .u8 k] 5)
  have s2 := (BS.one w1 5 (k : Int) (by omega) (by omega)).more (B' := (w1.alloc (.cells #[.int .u8 k] 5)).heap.size) (by simp)
  have b02 := btr b01 k2 b01.size
  have hB2 := hB1.alloc (.cells #[.int .u8 k] 5)
  have z0 := hB2.cell 0
  have z1 := hB2.cell 1
  clear c0 c1 hB
  go_wp2_with fail
  refine (octetPut32 _ 1 1 [ub (k : Int)] (a : Int) _ s2 (by simp) (by omega) (by omega)).mono ?_
  rintro _ w3 ⟨A3, n3, c3, rfl, o3, b3⟩
  have hn3 : n3 = 5 := o3.1.trans (by simp [b32])
  subst hn3
  have hc3 := o3.cap
  have b03 := btr b02 b3 b02.size
  have hB3 := hB2.below b3 hB2.lt
  have y1 : w3.cell? ⟨w.heap.size, 1, none⟩ = some (.int .i64 k) := hB3.cell 1
  have hgl := hB3.lt
  clear x0 x1 z0 z1
  obtain ⟨g3, cap3, hv3, hg3, hg3l⟩ := o3.2.form (by omega)
  have hA3 : A3 = some ⟨g3, 0, none⟩ := by injection hv3
  subst hA3
  clear hv3
  obtain ⟨q, hq⟩ : ∃ q, 1 + (k + 7) / 8 = q := ⟨_, rfl⟩
  obtain ⟨r, hr8⟩ : ∃ r, (k + 7) / 8 = r := ⟨_, rfl⟩
  have hw8 : IntKind.i64.wrap (((k : Int) + 7).tdiv 8) = (r : Int) := by
    rw [Int.tdiv_eq_ediv_of_nonneg (by omega), IntKind.wrap_i64]
    omega
  have hw9 : IntKind.i64.wrap (1 + (r : Int)) = (q : Int) := by rw [IntKind.wrap_i64]; omega
  have hq5 : q ≤ 5 := by omega
  have hqc : (q : Int) ≤ c3 := by omega
  have hq0 : (0 : Int) ≤ q := by omega
  have hc30 : ¬ c3 = 0 := by omega
  have hw7 : IntKind.i64.wrap ((k : Int) + 7) = (k : Int) + 7 := by simp only [IntKind.wrap_i64]; omega
  have HP := Lib.hid (show ([ub (k : Int)] ++ b32 (a : Int)).take q = pBytes a k by rw [pBytes, hq]; rfl)
  have s3 := o3.bs.take_ (k := q) hq5
  have H := Lib.hid (h.call b03)
  have HLL := Lib.hid (show l.length ≤ 100000 by rw [← HL.out]; exact hn)
  have HTL := Lib.hid (show (([ub (k : Int)] ++ b32 (a : Int)).take q).length ≤ 5 by rw [List.length_take]; omega)
  clear hq hr8 h s2 o3
  obtain ⟨PB, hPB⟩ : ∃ PB, ([ub (k : Int)] ++ b32 (a : Int)).take q = PB := ⟨_, rfl⟩
  rw [hPB] at s3 HP HTL
  clear hPB
  go_wp2_with fail
  go_region_held3 (fun w' => Below w3.heap.size w3 w' ∧ w'.cell? ⟨w.heap.size, 1, none⟩ = some (.int .i64 k))
    (first | (refine keep1d hgl b6 ?_; assumption) | (refine keep1d hgl b5 ?_; assumption) | ((repeat' apply And.intro) <;> first | (with_reducible exact Below.drew (Below.refl _ _)) | go_keep))
    (first
      | (refine step_app rfl (.const (.slice none 0 0)) (.tmp 17) _ (by rfl) 5 Tryd.underlying55 u8info w3.heap.size none 0 0 [] (by rfl) OB.nil_ w3.heap.size A n c l (by rfl) (BS.drew H.out) (by rw [List.length_nil, Nat.zero_add]; exact Nat.le_trans HLL.out (by omega)) (Nat.le_refl _) ?_; intro A5 n5 c5 w5 o5 b5 g5; rw [List.nil_append] at o5)
      | (refine step_app rfl (.tmp 18) (.tmp 25) _ (by rfl) 5 Tryd.underlying55 u8info w3.heap.size A5 n5 c5 l (by rfl) o5 w3.heap.size (some ⟨g3, 0, none⟩) q c3 PB (by rfl) ((BS.drew s3).below b5) (by have := HLL.out; have := HTL.out; omega) b5.size ?_; intro A6 n6 c6 w6 o6 b6 g6))
  all_goals
    try go_wp2_with fail
    rw [HP.out] at o6
    go_ret2
    exact ⟨A6, n6, c6, rfl, o6.low b03.size, btr b03 (And.left (by with_reducible assumption)) b03.size⟩
theorem ten : decU 10 = [49, 48] := by rw [decU_big (by omega), decU_small (by omega)]; rfl
theorem ex_text : pfT 167772160 8 = [49, 48, 46, 48, 46, 48, 46, 48, 47, 56] := by
  have e0 : decU 0 = [48] := by rw [decU_small (by omega)]; rfl
  have e8 : decU 8 = [56] := by rw [decU_small (by omega)]; rfl
  simp [pfT, adT, ten, e0, e8]
theorem ex_right : pRight 167772160 ((8 : Nat) : Int) = true := by decide +kernel
theorem ex_covers : pCovers 167772160 ((8 : Nat) : Int) 167837696 16 = true := by decide +kernel
theorem ex_bytes : pBytes 167772160 8 = [8, 10] := by decide +kernel
set_option maxHeartbeats 1000000 in
set_option maxRecDepth 100000 in
theorem awake02 (w : World) (ht : DigTab w) : Calls Tryd.prog 25 #[] w fun en w' => en = .returned (.bool true) ∧ Below w.heap.size w w' := by
  have HR := Lib.hid ex_right
  have HC := Lib.hid ex_covers
  have HB := Lib.hid ex_bytes
  obtain ⟨S, hS⟩ : ∃ S : ByteArray, (⟨#[49, 48, 46, 48, 46, 48, 46, 48, 47, 56]⟩ : ByteArray) = S := ⟨_, rfl⟩
  have hz : S.size ≤ 2000 := by rw [← hS]; show 10 ≤ 2000; omega
  have HT := Lib.hid (show S = ⟨(pfT 167772160 8).toArray⟩ by rw [ex_text, ← hS])
  have HA := Lib.hid (show PfA S.data.toList 167772160 8 true by rw [← hS]; exact .inl ⟨rfl, by omega, by omega, ex_right, ex_text⟩)
  go_enter Tryd.func25, Tryd.ntmps25
  go_wp2_with fail
  refine (prefixParse S _ ht hz).mono ?_
  rintro _ w1 ⟨a, n, ok, rfl, hA, b1⟩
  obtain ⟨rfl, rfl, rfl⟩ := PfAns.one hA HA.out
  have hB := Blk.new w1 24 #[.int .u32 167772160, .int .i64 8]
  have b2 := b1.alloc b1.size (.cells #[.int .u32 167772160, .int .i64 8] 24)
  clear hA
  go_wp2_with fail
  refine (prefixPut_yes none 0 0 [] 167772160 (by omega) 8 (by omega) _ BS.none_ (by omega) HR.out).mono ?_
  rw [HB.out]
  rintro _ w3 ⟨A3, n3, c3, rfl, o3, b3⟩
  rw [List.nil_append] at o3
  have b03 := btr b2 b3 b2.size
  have hB3 := hB.below b3 (by simp)
  have x0 := hB3.cell 0
  have x1 := hB3.cell 1
  have hpl := hB3.lt
  have t3 := ht.call b03
  go_wp2_with (first
    | (go_at_call 29; refine (prefixCovers 167772160 (by omega) (8 : Nat) 167837696 (by omega) 16 _).mono ?_; rw [HC.out]; rintro _ w4 ⟨rfl, b4⟩; have b04 := btr b03 b4 b03.size; have hB4 := hB3.below b4 hpl; have y0 := hB4.cell 0; have y1 := hB4.cell 1; have o4 := o3.below b4; have k4 := o4.bs.conv (P := Tryd.prog) 55 9 5 c3 Tryd.underlying55 Tryd.underlying5 Tryd.underlying9)
    | (go_at_call 19; refine (prefixText_yes 167772160 (by omega) 8 (by omega) S _ (t3.call b4) HR.out HT).mono ?_; rintro _ w5 ⟨rfl, b5⟩; have b05 := btr b04 b5 b04.size))
  go_ret
  exact ⟨rfl, b05⟩
end Go.Proofs.YtnhkpnohadbcdaaDoor
