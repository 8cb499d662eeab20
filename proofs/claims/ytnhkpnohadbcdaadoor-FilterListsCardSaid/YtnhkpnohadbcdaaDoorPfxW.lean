/- The walk of layer 2's Read (prefix), where the bytes are a right prefix's. No conditions but sizes. -/
import Derived.Test.YtnhkpnohadbcdaaDoorProg
import Derived.WalkKit
import Derived.WalkSpells
import Derived.WalkLawsBesides
import Derived.Outline
import Derived.Deep.QuietTactic
import Derived.BigQuiet
import Derived.Handy
import Derived.Lib.Hide
import Derived.Test.YtnhkpnohadbcdaaDoorPfxV
namespace Go.Proofs.YtnhkpnohadbcdaaDoor
open Go.RowKit
theorem rd_below {w w' : World} {B g : Nat} {l : List UInt8} {s : Bool} (h : RD w g l s) (hb : Below B w w') (hB : w.heap.size ≤ B) : RD w' g l s := by
  have hlt := h.lt
  obtain ⟨A, n, c, h1, h2, h3⟩ := h
  exact ⟨A, n, c, h1.below hb (by omega), h2, (h3.below (hb.mono hB)).more hb.size⟩
theorem at_below {B : Nat} {a w w' : World} {g : Nat} (h : Below B a w) (hg : w.grownBy w' (some g)) (hB : B ≤ w.heap.size) (hle : B ≤ g) : Below B a w' :=
  h.grown hg hB (fun k hk => by injection hk; omega)
theorem grown_tr {a b c : World} {row : Option Nat} (h : a.grownBy b row) (k : b.grownBy c row) : a.grownBy c row :=
  ⟨k.os.trans h.os, k.tape.trans h.tape, k.output.trans h.output, Nat.le_trans h.size k.size, fun i hi hne => (k.block i (Nat.lt_of_lt_of_le hi h.size) hne).trans (h.block i hi hne)⟩
theorem pf_no {x y : Int} : ∀ (i : Nat) (v : Int), (#[Value.int .u32 x, Value.int .i64 y] : Array Value)[i]? ≠ some (Value.int .u8 v) := by
  intro i v
  rcases i with _ | _ | i
  · simp
  · simp
  · simp
/-- A reader stays where a prefix's cell is written. -/
theorem rd_far {w : World} {g p : Nat} {l : List UInt8} {s : Bool} {x y : Int} (h : RD w g l s) (hp : Blk w p 24 #[.int .u32 x, .int .i64 y]) (i : Nat) (u : Value) : RD (w.setCell ⟨p, i, none⟩ u) g l s := by
  obtain ⟨A, n, c, hb, hnc, hbs⟩ := h
  have hg := only_setCell (World.grownBy.refl w (some p)) (p := ⟨p, i, none⟩) (.inl rfl) u
  exact ⟨A, n, c, hb.grown hg (by intro e; injection e with e; exact Blk.ne_ hb hp (by decide) e), hnc, hbs.grownAt hg (hbs.apart hp pf_no)⟩
theorem tk_yes {l : List UInt8} {k : Nat} (h : k ≤ l.length) : tkOut l false k = l.take k ∧ tkLeft l false k = l.drop k ∧ tkShort l false k = false := by
  have hor : ¬ (false = true ∨ (k : Int) < 0 ∨ (l.length : Int) < k) := by simp; omega
  exact ⟨by rw [tkOut, if_neg hor, Int.toNat_natCast], by rw [tkLeft, if_neg hor, Int.toNat_natCast], by rw [tkShort, decide_eq_false hor]⟩
theorem pBytes_len (a k : Nat) (hk : k ≤ 32) : (pBytes a k).length = 1 + (k + 7) / 8 := by
  unfold pBytes
  rw [List.length_take]
  show min _ 5 = _
  omega
theorem pBytes_first (a k : Nat) (M : List UInt8) : (pBytes a k ++ M).take 1 = [ub (k : Int)] ∧ (pBytes a k ++ M).drop 1 = (b32 (a : Int)).take ((k + 7) / 8) ++ M := by
  rw [pBytes_eq]
  exact ⟨rfl, rfl⟩
/-- The number of the first bytes. -/
def aJ (a j : Nat) : Nat := a / 2 ^ (32 - 8 * j) * 2 ^ (32 - 8 * j)
theorem aJ_zero {a : Nat} (ha : a < 4294967296) : aJ a 0 = 0 := by
  unfold aJ; rw [Nat.div_eq_of_lt (by simpa using ha), Nat.zero_mul]
theorem aJ_eq (a j : Nat) (hj : j ≤ 4) : aJ a j = normN a ((8 * j : Nat) : Int) := by
  unfold aJ normN; rw [cl_nat (by omega)]
theorem u32_orN (x v : Nat) (hx : x < 4294967296) (hv : v < 4294967296) : bits .or .u32 (x : Int) (v : Int) = ((x ||| v : Nat) : Int) := by
  have hlt : x ||| v < 4294967296 := Nat.or_lt_two_pow (n := 32) hx hv
  first
    | (show IntKind.u32.wrap ((BitVec.ofInt 32 ((x : Nat) : Int) ||| BitVec.ofInt 32 ((v : Nat) : Int)).toNat : Int) = _
       rw [BitVec.toNat_or, BitVec.ofInt_natCast, BitVec.ofInt_natCast, BitVec.toNat_ofNat, BitVec.toNat_ofNat, Nat.mod_eq_of_lt (by omega), Nat.mod_eq_of_lt (by omega), IntKind.wrap_u32]
       omega)
    | (show IntKind.u32.wrap ((BitVec.ofInt 64 ((x : Nat) : Int) ||| BitVec.ofInt 64 ((v : Nat) : Int)).toNat : Int) = _
       rw [BitVec.toNat_or, BitVec.ofInt_natCast, BitVec.ofInt_natCast, BitVec.toNat_ofNat, BitVec.toNat_ofNat, Nat.mod_eq_of_lt (by omega), Nat.mod_eq_of_lt (by omega), IntKind.wrap_u32]
       omega)
theorem shl_or (a s : Nat) : a / 2 ^ (s + 8) * 2 ^ (s + 8) ||| a / 2 ^ s % 256 * 2 ^ s = a / 2 ^ s * 2 ^ s := by
  have h1 : a / 2 ^ s % 256 * 2 ^ s < 2 ^ (s + 8) := by
    rw [Nat.pow_add, Nat.mul_comm (2 ^ s)]
    exact Nat.mul_lt_mul_of_pos_right (Nat.mod_lt _ (by omega)) (Nat.two_pow_pos _)
  rw [Nat.mul_comm (a / 2 ^ (s + 8)), ← Nat.two_pow_add_eq_or_of_lt h1, Nat.pow_add, ← Nat.div_div_eq_div_mul, show (2 : Nat) ^ 8 = 256 from rfl, Nat.mul_assoc, Nat.mul_comm (2 ^ s), ← Nat.add_mul]
  congr 1
  omega
theorem aJ_le (a j : Nat) : aJ a j ≤ a := Nat.div_mul_le_self _ _
theorem aJ_succ (a j : Nat) (ha : a < 4294967296) (hj : j < 4) : bits .or .u32 (aJ a j : Int) ((a : Int) / 2 ^ (24 - 8 * j) % 256 * 2 ^ (24 - 8 * j) % 4294967296) = (aJ a (j + 1) : Int) := by
  have h1 : a / 2 ^ (24 - 8 * j) % 256 * 2 ^ (24 - 8 * j) ≤ a := by
    refine Nat.le_trans (Nat.mul_le_mul_right _ (Nat.mod_le _ _)) (Nat.div_mul_le_self _ _)
  have h2 := aJ_le a j
  have e : ((a : Int) / 2 ^ (24 - 8 * j) % 256 * 2 ^ (24 - 8 * j) % 4294967296) = ((a / 2 ^ (24 - 8 * j) % 256 * 2 ^ (24 - 8 * j) : Nat) : Int) := by
    have : ((a / 2 ^ (24 - 8 * j) % 256 * 2 ^ (24 - 8 * j) % 4294967296 : Nat) : Int) = (a : Int) / 2 ^ (24 - 8 * j) % 256 * 2 ^ (24 - 8 * j) % 4294967296 := by
      simp only [Int.natCast_emod, Int.natCast_mul, Int.natCast_ediv, Int.natCast_pow]; rfl
    rw [← this, Nat.mod_eq_of_lt (by omega)]
  rw [e, u32_orN _ _ (by omega) (by omega)]
  unfold aJ
  rw [show 32 - 8 * j = (24 - 8 * j) + 8 by omega, shl_or, show 32 - 8 * (j + 1) = 24 - 8 * j by omega]
theorem lb_b32 (a q j : Nat) (ha : a < 4294967296) (hj : j < q) (hq : q ≤ 4) : lb ((b32 (a : Int)).take q) j = a / 2 ^ (24 - 8 * j) % 256 := by
  unfold lb
  rw [List.getElem?_take_of_lt hj]
  have h4 : j = 0 ∨ j = 1 ∨ j = 2 ∨ j = 3 := by omega
  rcases h4 with rfl | rfl | rfl | rfl
  · have := ub_toNat (e := (a : Int) / 16777216) (by omega) (by omega)
    show (ub _).toNat = a / 16777216 % 256
    omega
  · have := ub_toNat (e := (a : Int) / 65536 % 256) (by omega) (by omega)
    show (ub _).toNat = a / 65536 % 256
    omega
  · have := ub_toNat (e := (a : Int) / 256 % 256) (by omega) (by omega)
    show (ub _).toNat = a / 256 % 256
    omega
  · have := ub_toNat (e := (a : Int) % 256) (by omega) (by omega)
    show (ub _).toNat = a / 1 % 256
    omega
set_option maxHeartbeats 2000000 in
set_option maxRecDepth 100000 in
theorem prefixRead_ok (g : Nat) (a : Nat) (ha : a < 4294967296) (k : Nat) (hk : k ≤ 32) (M : List UInt8) (w : World) (h : RD w g (pBytes a k ++ M) false) (hl : (pBytes a k ++ M).length ≤ 100000) (hr : pRight a (k : Int) = true) :
    Calls Tryd.prog 58 #[.pointer (some ⟨g, 0, none⟩)] w fun en w' => en = .returned (.tuple #[.agg #[.int .u32 a, .int .i64 k], .int .i64 0]) ∧ RD w' g M false ∧ w.grownBy w' (some g) := by
  have hgl := h.lt
  have hB := Blk.new w 24 #[.int .u32 0, .int .i64 0]
  have b0 := (Below.refl w.heap.size w).alloc (Nat.le_refl _) (.cells #[.int .u32 0, .int .i64 0] 24)
  have h0 := rd_below h b0 (Nat.le_refl _)
  have hlen := pBytes_len a k hk
  have T1 := tk_yes (l := pBytes a k ++ M) (k := 1) (by rw [List.length_append]; omega)
  rw [(pBytes_first a k M).1, (pBytes_first a k M).2] at T1
  have N1 : numL [ub (k : Int)] = k := by
    have := ub_toNat (e := (k : Int)) (by omega) (by omega)
    simp [numL]; omega
  have hl2 : ((b32 (a : Int)).take ((k + 7) / 8)).length = (k + 7) / 8 := by rw [List.length_take]; show min _ 4 = _; omega
  have T2 := tk_yes (l := (b32 (a : Int)).take ((k + 7) / 8) ++ M) (k := (k + 7) / 8) (by rw [List.length_append]; omega)
  rw [List.take_left' hl2, List.drop_left' hl2] at T2
  have hl3 : ((b32 (a : Int)).take ((k + 7) / 8) ++ M).length ≤ 100000 := by rw [List.length_append] at hl ⊢; omega
  obtain ⟨L, hL⟩ : ∃ L, pBytes a k ++ M = L := ⟨_, rfl⟩
  rw [hL] at h h0 T1 hl
  obtain ⟨q, hq⟩ : ∃ q, (k + 7) / 8 = q := ⟨_, rfl⟩
  rw [hq] at T1 T2 hl2 hl3
  obtain ⟨E, hE⟩ : ∃ E, (b32 (a : Int)).take q = E := ⟨_, rfl⟩
  rw [hE] at T1 T2 hl2 hl3
  have HT1 := Lib.hid T1
  have HT2 := Lib.hid T2
  have HN1 := Lib.hid N1
  have HE := Lib.hid hE
  have HQ := Lib.hid hq
  have HL2 := Lib.hid hl2
  have hq4 : q ≤ 4 := by omega
  have hw8 : IntKind.i64.wrap (((k : Int) + 7).tdiv 8) = (q : Int) := by
    rw [Int.tdiv_eq_ediv_of_nonneg (by omega), IntKind.wrap_i64]
    omega
  have hw7 : ((k : Int) + 7) / 8 = (q : Int) := by omega
  have hk32 : (k : Int) ≤ 32 := by omega
  have HL3 := Lib.hid hl3
  clear T1 T2 N1 hE hq hL hl2 hlen hl3
  go_enter Tryd.func58, Tryd.ntmps58
  go_wp2_with fail
  refine (readerByte g L false _ h0 hl).mono ?_
  rw [HT1.out.1, HT1.out.2.1, HT1.out.2.2, HN1.out]
  rintro _ w1 ⟨rfl, r1, g1⟩
  have hB1 := hB.grown g1 (by intro e; injection e; omega)
  have G1 := grown_tr (only_of_below b0 (some g)) g1
  go_wp2_with fail
  refine (readerErr g _ false _ r1).mono ?_
  rintro _ _ ⟨rfl, rfl⟩
  go_wp2_with fail
  refine (readerTake g _ false (q : Nat) _ r1 HL3.out).mono ?_
  rintro _ w3 ⟨A3, n3, c3, rfl, o3, r3, g3⟩
  rw [HT2.out.1] at o3
  rw [HT2.out.2.1, HT2.out.2.2] at r3
  have hB3 := hB1.grown g3 (by intro e; injection e; omega)
  have G3 := grown_tr G1 g3
  have hn3 : n3 = q := o3.1.trans HL2.out
  subst hn3
  go_wp2_with fail
  go_loop [6, 27] (fun x i => ∃ j : Nat, j ≤ n3 ∧ x = .int .u32 (aJ a j) ∧ i = .int .i64 j) (fun _ i => n3 - (intOf i).toNat)
  case atStart => exact ⟨0, by omega, by rw [aJ_zero ha]; rfl, rfl⟩
  case round =>
    obtain ⟨j, hj, rfl, rfl⟩ := hrel
    by_cases hlt : j < n3
    · obtain ⟨b, off, rfl, hbw, hcw⟩ := o3.bs.form hlt
      have hv := lb_b32 a n3 j ha hlt hq4
      rw [HE.out] at hv
      have hvl := lb_lt E j
      obtain ⟨v, hvv⟩ : ∃ v, lb E j = v := ⟨_, rfl⟩
      rw [hvv] at hcw hvl hv
      have HA := Lib.hid (aJ_succ a j ha (by omega))
      obtain ⟨x, hx⟩ : ∃ x, aJ a j = x := ⟨_, rfl⟩
      have hd : decide ((j : Int) < (n3 : Int)) = true := decide_eq_true (by omega)
      have hs : ((24 - 8 * j : Nat) : Int) = 24 - 8 * (j : Int) := by omega
      rw [hx] at HA ⊢
      go_wp2_with fail
      go_round
      case rel => exact ⟨j + 1, by omega, by rw [HA.out], by go_num⟩
      case measure => simp [intOf]; omega
    · have hj' : j = n3 := by omega
      have hd : decide ((j : Int) < (n3 : Int)) = false := decide_eq_false (by omega)
      have HQ' := HQ.out
      have e : normN (aJ a j) (k : Int) = a := by
        rw [aJ_eq a j (by omega), normN_norm _ _ _ (by rw [cl_nat hk, cl_nat (by omega)]; omega)]
        obtain ⟨m, hm, _, h3⟩ := pRight_of hr
        have : k = m := by omega
        subst this
        exact h3
      have e2 := aJ_le a j
      obtain ⟨x, hx⟩ : ∃ x, aJ a j = x := ⟨_, rfl⟩
      rw [hx] at e e2 ⊢
      have HX := Lib.hid e
      have HC := Lib.hid (cl_nat hk)
      clear HQ' e hx
      go_wp2_with fail
      refine (readerErr g _ false _ r3).mono ?_
      rintro _ _ ⟨rfl, rfl⟩
      go_wp2_with fail
      refine (prefixNorm x (by omega) k _).mono ?_
      rw [HX.out, HC.out]
      rintro _ w5 ⟨rfl, b5⟩
      have hB5 := hB3.below b5 hB3.lt
      have r5 := rd_below r3 b5 (Nat.le_refl _)
      have G5 := grown_tr G3 (only_of_below b5 (some g))
      have f0 := hB5.frozen 0
      have f1 := hB5.frozen 1
      have c0 := hB5.cell 0
      have c1 := hB5.cell 1
      go_wp2_with fail
      have hB6 := (hB5.set_ 0 (.int .u32 a)).set_ 1 (.int .i64 k)
      refine bodyPost_ret (pfx_ret2 rfl _ _ w.heap.size (.int .u32 a) (.int .i64 k) rfl (by simpa using hB6)) rfl ?_
      refine ⟨rfl, ?_, only_setCell (only_setCell G5 (.inr (Nat.le_refl _)) _) (.inr (Nat.le_refl _)) _⟩
      exact rd_far (rd_far r5 hB5 0 _) (by simpa using hB5.set_ 0 (.int .u32 a)) 1 _
end Go.Proofs.YtnhkpnohadbcdaaDoor
