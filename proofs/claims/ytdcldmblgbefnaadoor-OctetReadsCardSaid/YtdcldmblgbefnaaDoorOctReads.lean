/- The walk of the law OctetReads. Conditions: the table of digits (DigTab). -/
import Derived.Test.YtdcldmblgbefnaaDoorProg
import Derived.WalkKit
import Derived.WalkSpells
import Derived.WalkLawsBesides
import Derived.Outline
import Derived.Deep.QuietTactic
import Derived.BigQuiet
import Derived.Handy
import Derived.Lib.Hide
import Derived.Test.YtdcldmblgbefnaaDoorReaderTwo
namespace Go.Proofs.YtdcldmblgbefnaaDoor
open Go.RowKit
theorem RD.drewN {w : World} {g : Nat} {l : List UInt8} {s : Bool} (q : Nat) (h : RD w g l s) : RD (w.drewN q) g l s := h
theorem RX.drewN {w : World} {g : Nat} {l : List UInt8} {s : Bool} (q : Nat) (h : RX w g l s) : RX (w.drewN q) g l s := h
theorem BS.alloc' {w : World} {A : Option Addr} {n : Nat} {l : List UInt8} (h : BS w w.heap.size A n l) (o : Obj) : BS (w.alloc o) (w.alloc o).heap.size A n l := (h.alloc (Nat.le_refl _) o).more (by simp)
theorem RD.alloc {w : World} {g : Nat} {l : List UInt8} {s : Bool} (h : RD w g l s) (o : Obj) : RD (w.alloc o) g l s := by
  obtain ⟨A, n, c, h1, h2, h3⟩ := h
  exact ⟨A, n, c, h1.alloc o, h2, h3.alloc' o⟩
set_option maxHeartbeats 1000000 in
set_option maxRecDepth 100000 in
theorem lawOctetReads (w : World) (A : Option Addr) (n c : Nat) (l : List UInt8) (h : BS w w.heap.size A n l) (_ : n ≤ c) (_ : c ≤ maxLen)
    (A' : Option Addr) (m c' : Nat) (cl : List Int) (h' : NS .i64 w w.heap.size A' m cl) (_ : m ≤ c') (_ : c' ≤ maxLen) (ht : DigTab w) :
    Calls Tryd.prog 12 #[.slice A n c, .slice A' m c'] w fun en w' => en = .returned (.bool true) ∧ Below w.heap.size w w' := by
  by_cases hn : n ≤ 500 ∧ m ≤ 40
  · obtain ⟨hn, hm⟩ := hn
    have hni : (n : Int) ≤ 500 := by omega
    have hmi : (m : Int) ≤ 40 := by omega
    have hl2 := Lib.hid h.len
    go_enter Tryd.func12, Tryd.ntmps12
    go_wp2_with fail
    refine (readerNew A n c l _ h (by omega)).mono ?_
    rintro _ w1 ⟨g, rfl, hg, r1, b1⟩
    go_wp2_with fail
    go_loopw [7] (fun i wr => ∃ (j : Nat) (l1 : List UInt8) (s : Bool), j ≤ m ∧ i = .int .i64 j ∧ RD wr g l1 s ∧ RX wr w1.heap.size l1 s ∧ l1.length ≤ 500 ∧ Below w.heap.size w wr) (fun i _ => m - (intOf i).toNat)
    case atStart => exact ⟨0, l, false, by omega, rfl, r1.alloc _, ⟨A, n, c, 0, l, Blk.new _ _ _, by omega, (h.call b1).alloc' _, by omega, rfl⟩, by have := hl2.out; omega, b1.alloc b1.size _⟩
    case round =>
      obtain ⟨j, l1, s, hj, rfl, r2, x2, hl1, b2⟩ := hrel
      by_cases hlt : j < m
      · obtain ⟨b, off, rfl, hbw, hcw⟩ := h'.form hlt
        have hc := (b2.cell (p := ⟨b, off + j, none⟩) hbw).trans hcw
        clear hcw
        have hlti : (j : Int) < m := by omega
        obtain ⟨v, hvv⟩ : ∃ v, cl[j]?.getD 0 = v := ⟨_, rfl⟩
        rw [hvv] at hc
        clear hvv
        by_cases h0 : v = 0
        · subst h0
          go_wp2_with fail
          refine (readerByte g l1 s _ r2 (by omega)).mono ?_
          rintro _ w3 ⟨rfl, r3, g3⟩
          have x3 := x2.beside r2 g3
          have b3 := below_at b2 g3 b2.size hg
          go_wp2_with fail
          refine (refNum _ l1 s 1 _ x3 (by omega)).mono ?_
          rintro _ w4 ⟨rfl, x4, g4⟩
          have r4 := r3.beside x3 g4
          have b4 := below_at b3 g4 b3.size (by have := b1.size; omega)
          obtain ⟨L, hL⟩ : ∃ L, tkLeft l1 s (1 : Nat) = L := ⟨_, rfl⟩
          obtain ⟨S, hS⟩ : ∃ S, tkShort l1 s (1 : Nat) = S := ⟨_, rfl⟩
          have hLl := tkLeft_len l1 s (1 : Nat)
          rw [hL] at hLl
          rw [hL, hS] at r4 x4
          clear hL hS
          obtain ⟨Z, hZ⟩ : ∃ Z, (if S then 0 else L.length : Nat) = Z := ⟨_, rfl⟩
          obtain ⟨E, hE⟩ : ∃ E, (if S then 3 else 0 : Nat) = E := ⟨_, rfl⟩
          have hwE : IntKind.i64.wrap (E : Int) = E := by rw [← hE]; cases S <;> rfl
          have HZ := Lib.hid hZ
          have HE := Lib.hid hE
          clear hZ hE
          go_wp2_with fail
          refine (readerLeft g L S _ r4).mono ?_
          rw [HZ.out]
          rintro _ _ ⟨rfl, rfl⟩
          go_wp2_with fail
          refine (refLeft _ L S _ x4).mono ?_
          rw [HZ.out]
          rintro _ _ ⟨rfl, q, rfl⟩
          go_wp2_with fail
          refine (readerErr g L S _ (RD.drewN q r4)).mono ?_
          rw [HE.out]
          rintro _ _ ⟨rfl, rfl⟩
          go_wp2_with fail
          refine (refErr _ L S _ (RX.drewN q x4)).mono ?_
          rw [HE.out]
          rintro _ _ ⟨rfl, rfl⟩
          go_wp2_with fail
          go_roundw
          case rel => exact ⟨j + 1, L, S, by omega, by go_num, RD.drewN q r4, RX.drewN q x4, by omega, below_drewN b4 q⟩
          case measure => simp [intOf]; omega
        by_cases h1 : v = 1
        · subst h1
          go_wp2_with fail
          refine (readerU16 g l1 s _ r2 (by omega)).mono ?_
          rintro _ w3 ⟨rfl, r3, g3⟩
          have x3 := x2.beside r2 g3
          have b3 := below_at b2 g3 b2.size hg
          go_wp2_with fail
          refine (refNum _ l1 s 2 _ x3 (by omega)).mono ?_
          rintro _ w4 ⟨rfl, x4, g4⟩
          have r4 := r3.beside x3 g4
          have b4 := below_at b3 g4 b3.size (by have := b1.size; omega)
          obtain ⟨L, hL⟩ : ∃ L, tkLeft l1 s (2 : Nat) = L := ⟨_, rfl⟩
          obtain ⟨S, hS⟩ : ∃ S, tkShort l1 s (2 : Nat) = S := ⟨_, rfl⟩
          have hLl := tkLeft_len l1 s (2 : Nat)
          rw [hL] at hLl
          rw [hL, hS] at r4 x4
          clear hL hS
          obtain ⟨Z, hZ⟩ : ∃ Z, (if S then 0 else L.length : Nat) = Z := ⟨_, rfl⟩
          obtain ⟨E, hE⟩ : ∃ E, (if S then 3 else 0 : Nat) = E := ⟨_, rfl⟩
          have hwE : IntKind.i64.wrap (E : Int) = E := by rw [← hE]; cases S <;> rfl
          have HZ := Lib.hid hZ
          have HE := Lib.hid hE
          clear hZ hE
          go_wp2_with fail
          refine (readerLeft g L S _ r4).mono ?_
          rw [HZ.out]
          rintro _ _ ⟨rfl, rfl⟩
          go_wp2_with fail
          refine (refLeft _ L S _ x4).mono ?_
          rw [HZ.out]
          rintro _ _ ⟨rfl, q, rfl⟩
          go_wp2_with fail
          refine (readerErr g L S _ (RD.drewN q r4)).mono ?_
          rw [HE.out]
          rintro _ _ ⟨rfl, rfl⟩
          go_wp2_with fail
          refine (refErr _ L S _ (RX.drewN q x4)).mono ?_
          rw [HE.out]
          rintro _ _ ⟨rfl, rfl⟩
          go_wp2_with fail
          go_roundw
          case rel => exact ⟨j + 1, L, S, by omega, by go_num, RD.drewN q r4, RX.drewN q x4, by omega, below_drewN b4 q⟩
          case measure => simp [intOf]; omega
        by_cases h2 : v = 2
        · subst h2
          go_wp2_with fail
          refine (readerU32 g l1 s _ r2 (by omega)).mono ?_
          rintro _ w3 ⟨rfl, r3, g3⟩
          have x3 := x2.beside r2 g3
          have b3 := below_at b2 g3 b2.size hg
          have hN := tkOut_num l1 s 4
          obtain ⟨N, hNN⟩ : ∃ N, numL (tkOut l1 s (4 : Nat)) = N := ⟨_, rfl⟩
          rw [hNN] at hN
          have h4 : (256 : Nat) ^ 4 = 4294967296 := by decide
          have hwN : IntKind.i64.wrap (N : Int) = N := IntWalk.i64_in _ ⟨by omega, by omega⟩
          have HN := Lib.hid hNN
          clear hNN
          rw [HN.out]
          go_wp2_with fail
          refine (refNum _ l1 s 4 _ x3 (by omega)).mono ?_
          rw [HN.out]
          rintro _ w4 ⟨rfl, x4, g4⟩
          have r4 := r3.beside x3 g4
          have b4 := below_at b3 g4 b3.size (by have := b1.size; omega)
          obtain ⟨L, hL⟩ : ∃ L, tkLeft l1 s (4 : Nat) = L := ⟨_, rfl⟩
          obtain ⟨S, hS⟩ : ∃ S, tkShort l1 s (4 : Nat) = S := ⟨_, rfl⟩
          have hLl := tkLeft_len l1 s (4 : Nat)
          rw [hL] at hLl
          rw [hL, hS] at r4 x4
          clear hL hS
          obtain ⟨Z, hZ⟩ : ∃ Z, (if S then 0 else L.length : Nat) = Z := ⟨_, rfl⟩
          obtain ⟨E, hE⟩ : ∃ E, (if S then 3 else 0 : Nat) = E := ⟨_, rfl⟩
          have hwE : IntKind.i64.wrap (E : Int) = E := by rw [← hE]; cases S <;> rfl
          have HZ := Lib.hid hZ
          have HE := Lib.hid hE
          clear hZ hE
          go_wp2_with fail
          refine (readerLeft g L S _ r4).mono ?_
          rw [HZ.out]
          rintro _ _ ⟨rfl, rfl⟩
          go_wp2_with fail
          refine (refLeft _ L S _ x4).mono ?_
          rw [HZ.out]
          rintro _ _ ⟨rfl, q, rfl⟩
          go_wp2_with fail
          refine (readerErr g L S _ (RD.drewN q r4)).mono ?_
          rw [HE.out]
          rintro _ _ ⟨rfl, rfl⟩
          go_wp2_with fail
          refine (refErr _ L S _ (RX.drewN q x4)).mono ?_
          rw [HE.out]
          rintro _ _ ⟨rfl, rfl⟩
          go_wp2_with fail
          go_roundw
          case rel => exact ⟨j + 1, L, S, by omega, by go_num, RD.drewN q r4, RX.drewN q x4, by omega, below_drewN b4 q⟩
          case measure => simp [intOf]; omega
        have e0 : (v == 0) = false := by simpa using h0
        have e1 : (v == 1) = false := by simpa using h1
        have e2 : (v == 2) = false := by simpa using h2
        obtain ⟨K, hK⟩ : ∃ K, bits .and .i64 v 63 = K := ⟨_, rfl⟩
        go_wp2_with fail
        refine (readerTake g l1 s K _ r2 (by omega)).mono ?_
        rintro _ w3 ⟨A3, n3, c3, rfl, o3, r3, g3⟩
        have x3 := x2.beside r2 g3
        have b3 := below_at b2 g3 b2.size hg
        go_wp2_with fail
        refine (refTake _ l1 s K _ x3).mono ?_
        rintro _ w4 ⟨A4, n4, c4, rfl, o4, x4, g4⟩
        have r4 := r3.beside x3 g4
        have b4 := below_at b3 g4 b3.size (by have := b1.size; omega)
        have o5 := o3.grownAt g4 x2.lt
        go_wp2_with fail
        refine (ref01Same A3 A4 n3 n4 c3 c4 _ _ _ _ _ o5.bs o4.bs).mono ?_
        simp only [beq_self_eq_true]
        rintro _ _ ⟨rfl, rfl⟩
        obtain ⟨L, hL⟩ : ∃ L, tkLeft l1 s K = L := ⟨_, rfl⟩
        obtain ⟨S, hS⟩ : ∃ S, tkShort l1 s K = S := ⟨_, rfl⟩
        have hLl := tkLeft_len l1 s K
        rw [hL] at hLl
        rw [hL, hS] at r4 x4
        clear hL hS
        obtain ⟨Z, hZ⟩ : ∃ Z, (if S then 0 else L.length : Nat) = Z := ⟨_, rfl⟩
        obtain ⟨E, hE⟩ : ∃ E, (if S then 3 else 0 : Nat) = E := ⟨_, rfl⟩
        have hwE : IntKind.i64.wrap (E : Int) = E := by rw [← hE]; cases S <;> rfl
        have HZ := Lib.hid hZ
        have HE := Lib.hid hE
        clear hZ hE
        go_wp2_with fail
        refine (readerLeft g L S _ r4).mono ?_
        rw [HZ.out]
        rintro _ _ ⟨rfl, rfl⟩
        go_wp2_with fail
        refine (refLeft _ L S _ x4).mono ?_
        rw [HZ.out]
        rintro _ _ ⟨rfl, q, rfl⟩
        go_wp2_with fail
        refine (readerErr g L S _ (RD.drewN q r4)).mono ?_
        rw [HE.out]
        rintro _ _ ⟨rfl, rfl⟩
        go_wp2_with fail
        refine (refErr _ L S _ (RX.drewN q x4)).mono ?_
        rw [HE.out]
        rintro _ _ ⟨rfl, rfl⟩
        go_wp2_with fail
        go_roundw
        case rel => exact ⟨j + 1, L, S, by omega, by go_num, RD.drewN q r4, RX.drewN q x4, by omega, below_drewN b4 q⟩
        case measure => simp [intOf]; omega
      · have hj' : ¬ (j : Int) < m := by omega
        go_wp2_with fail
        refine (awake01 _ (ht.call b2)).mono ?_
        rintro _ w5 ⟨rfl, b5⟩
        go_wp2_with fail
        go_ret
        exact ⟨rfl, btr b2 b5 b2.size⟩
  · by_cases hn1 : n ≤ 500
    · have hni : (n : Int) ≤ 500 := by omega
      have hmi : 40 < (m : Int) := by omega
      go_enter Tryd.func12, Tryd.ntmps12
      go_wp2_with fail
      refine (awake01 _ ht).mono ?_
      rintro _ w5 ⟨rfl, b5⟩
      go_wp2_with fail
      go_ret
      exact ⟨rfl, b5⟩
    · have hni : 500 < (n : Int) := by omega
      go_enter Tryd.func12, Tryd.ntmps12
      go_wp2_with fail
      refine (awake01 _ ht).mono ?_
      rintro _ w5 ⟨rfl, b5⟩
      go_wp2_with fail
      go_ret
      exact ⟨rfl, b5⟩
end Go.Proofs.YtdcldmblgbefnaaDoor
