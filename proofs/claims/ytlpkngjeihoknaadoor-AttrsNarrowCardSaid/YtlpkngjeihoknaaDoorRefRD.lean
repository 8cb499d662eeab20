/- Walks of layer 1 (the document's octets): a reader whose bytes lie below a bound. Conditions: none but sizes. -/
import Derived.Test.YtlpkngjeihoknaaDoorProg
import Derived.WalkKit
import Derived.WalkSpells
import Derived.WalkLawsBesides
import Derived.Outline
import Derived.Deep.QuietTactic
import Derived.BigQuiet
import Derived.Handy
import Derived.Lib.Hide
import Derived.Test.YtlpkngjeihoknaaDoorRefRB
import Derived.Test.YtlpkngjeihoknaaDoorReaderG
namespace Go.Proofs.YtlpkngjeihoknaaDoor
open Go.RowKit
/-- A document's reader; its bytes lie below Bd. -/
def RY (Bd : Nat) (w : World) (g : Nat) (l : List UInt8) (s : Bool) : Prop := ∃ (A : Option Addr) (n c a : Nat) (F : List UInt8), Blk w g 95 #[.slice A n c, .int .i64 a, .bool s] ∧ (a ≤ n ∧ Bd ≤ w.heap.size) ∧ BS w Bd A n F ∧ n ≤ 100000 ∧ l = F.drop a
theorem RY.lt {Bd : Nat} {w : World} {g : Nat} {l : List UInt8} {s : Bool} (h : RY Bd w g l s) : g < w.heap.size := by
  obtain ⟨_, _, _, _, _, hb, _⟩ := h; exact hb.lt
theorem RY.short {Bd : Nat} {w : World} {g : Nat} {l : List UInt8} {s : Bool} (h : RY Bd w g l s) : w.cell? ⟨g, 2, none⟩ = some (.bool s) := by
  obtain ⟨_, _, _, _, _, hb, _⟩ := h; exact hb.cell 2
theorem RY.blk {Bd : Nat} {w : World} {g : Nat} {l : List UInt8} {s : Bool} (h : RY Bd w g l s) : ∃ cs, Blk w g 95 cs := by
  obtain ⟨_, _, _, _, _, hb, _⟩ := h; exact ⟨_, hb⟩
theorem RY.keep {Bd : Nat} {w w' : World} {g : Nat} {l : List UInt8} {s : Bool} (h : RY Bd w g l s) (hz : w.heap.size ≤ w'.heap.size) (hk : ∀ b, b < Bd ∨ b = g → w'.heap[b]? = w.heap[b]?) : RY Bd w' g l s := by
  obtain ⟨A, n, c, a, F, hb, ⟨hnc, hBd⟩, hbs, r⟩ := h
  exact ⟨A, n, c, a, F, (hk g (.inr rfl)).trans hb, ⟨hnc, Nat.le_trans hBd hz⟩, ⟨hbs.1, hbs.2.keep fun p hp => World.cell?_of_block (hk p.block (.inl hp))⟩, r⟩
theorem RY.below {Bd B : Nat} {w w' : World} {g : Nat} {l : List UInt8} {s : Bool} (h : RY Bd w g l s) (hb : Below B w w') (hB : Bd ≤ B) (hg : g < B) : RY Bd w' g l s :=
  h.keep hb.size fun b hb' => hb.block b (by rcases hb' with h | h <;> omega)
theorem RY.setCell {Bd : Nat} {w : World} {g : Nat} {l : List UInt8} {s : Bool} (h : RY Bd w g l s) {p : Addr} (hp : Bd ≤ p.block) (hne : p.block ≠ g) (u : Value) : RY Bd (w.setCell p u) g l s :=
  h.keep (by simp [World.setCell]) fun b hb' => Below.heap_setCell w p u b (by rcases hb' with h | h <;> omega)
theorem RY.grown {Bd : Nat} {w w' : World} {g : Nat} {l : List UInt8} {s : Bool} {row : Option Nat} (h : RY Bd w g l s) (hg : w.grownBy w' row) (hr : ∀ k, row = some k → Bd ≤ k ∧ k ≠ g) : RY Bd w' g l s := by
  have hlt := h.lt
  have hBd : Bd ≤ w.heap.size := by obtain ⟨_, _, _, _, _, _, ⟨_, h⟩, _⟩ := h; exact h
  exact h.keep hg.size fun b hb' => hg.block b (by rcases hb' with h | h <;> omega) (fun e => by have := hr b e.symm; rcases hb' with h | h <;> omega)
theorem RY.rx {Bd : Nat} {w : World} {g : Nat} {l : List UInt8} {s : Bool} (h : RY Bd w g l s) : RX w g l s := by
  obtain ⟨A, n, c, a, F, hb, ⟨hnc, hBd⟩, hbs, r⟩ := h
  exact ⟨A, n, c, a, F, hb, hnc, hbs.more hBd, r⟩
set_option maxHeartbeats 1000000 in
set_option maxRecDepth 100000 in
theorem ryTake_bad {Bd : Nat} (g : Nat) (l : List UInt8) (s : Bool) (k : Int) (w : World) (h : RY Bd w g l s) (hk : k < 0 ∨ (l.length : Int) < k) :
    Calls Tryd.prog 116 #[.pointer (some ⟨g, 0, none⟩), .int .i64 k] w (TkPost (fun w' => RY Bd w' g) g w l s k) := by
  obtain ⟨A, n, c, a, F, hb, ⟨han, hBd⟩, hbs0, hn1, hF⟩ := h
  have hbs := hbs0.more hBd
  have hc0 := hb.cell 0
  have hc1 := hb.cell 1
  have hc2 := hb.cell 2
  have hf2 := hb.frozen 2
  have hn := hbs.len
  have hll : l.length = n - a := by rw [hF, List.length_drop, hn]
  have HE := Lib.hid (show ∀ q, TkPost (fun w' => RY Bd w' g) g w l s k (.returned (.slice none 0 0)) ((w.drewN q).setCell ⟨g, 2, none⟩ (.bool true)) from by
    intro q
    have hor : s = true ∨ k < 0 ∨ (l.length : Int) < k := .inr hk
    have hg : w.grownBy ((w.drewN q).setCell ⟨g, 2, none⟩ (.bool true)) (some g) := only_setCell (only_of_below (below_drewN (Below.refl _ _) q) _) (p := ⟨g, 2, none⟩) (.inl rfl) (.bool true)
    refine ⟨none, 0, 0, rfl, by rw [tkOut, if_pos hor]; exact OB.nil_, ?_, hg⟩
    refine ⟨A, n, c, a, F, ?_, ⟨han, Nat.le_trans hBd hg.size⟩, hbs0.grownAtB hBd hg (hbs0.apart hb rx_no), hn1, by rw [tkLeft, if_pos hor]; exact hF⟩
    have := (hb.drewN q).set_ 2 (.bool true)
    rw [tkShort, decide_eq_true hor]
    simpa using this)
  have hwr : IntKind.i64.wrap ((n : Int) - a) = (n : Int) - a := IntWalk.i64_in _ ⟨by omega, by omega⟩
  clear hF hn
  by_cases hk0 : k < 0
  · have hd : decide (k < 0) = true := decide_eq_true hk0
    go_enter Tryd.func116, Tryd.ntmps116
    go_wp2_with fail
    go_quiet (fail)
    go_wp2_with fail
    go_ret
    exact HE.out _
  · have hd : decide (k < 0) = false := decide_eq_false hk0
    have hk1 : (n : Int) - a < k := by omega
    go_enter Tryd.func116, Tryd.ntmps116
    go_wp2_with fail
    go_quiet (fail)
    go_wp2_with fail
    go_ret
    exact HE.out _
set_option maxHeartbeats 1000000 in
set_option maxRecDepth 100000 in
theorem ryTake_was {Bd : Nat} (g : Nat) (l : List UInt8) (k : Nat) (w : World) (h : RY Bd w g l true) (hk : k ≤ l.length) :
    Calls Tryd.prog 116 #[.pointer (some ⟨g, 0, none⟩), .int .i64 k] w (TkPost (fun w' => RY Bd w' g) g w l true k) := by
  have HX := Lib.hid h
  obtain ⟨A, n, c, a, F, hb, ⟨han, hBd⟩, hbs0, hn1, hF⟩ := h
  have hbs := hbs0.more hBd
  have hc0 := hb.cell 0
  have hc1 := hb.cell 1
  have hc2 := hb.cell 2
  have hn := hbs.len
  have hll : l.length = n - a := by rw [hF, List.length_drop, hn]
  have hwr : IntKind.i64.wrap ((n : Int) - a) = (n : Int) - a := IntWalk.i64_in _ ⟨by omega, by omega⟩
  have hk0 : (0 : Int) ≤ k := by omega
  have hk1 : (k : Int) ≤ (n : Int) - a := by omega
  clear hF hn
  have hd : decide ((k : Int) < 0) = false := decide_eq_false (by omega)
  go_enter Tryd.func116, Tryd.ntmps116
  go_wp2_with fail
  go_quiet (fail)
  go_wp2_with fail
  go_ret
  refine ⟨none, 0, 0, rfl, by simpa [tkOut] using OB.nil_, ?_, only_of_below (below_drewN (Below.refl _ _) _) _⟩
  have hx : RY Bd (w.drewN nq) g l true := HX.out
  simpa [tkLeft, tkShort] using hx
set_option maxHeartbeats 1000000 in
set_option maxRecDepth 100000 in
theorem ryTake_ok {Bd : Nat} (g : Nat) (l : List UInt8) (k : Nat) (w : World) (h : RY Bd w g l false) (hk : k ≤ l.length) :
    Calls Tryd.prog 116 #[.pointer (some ⟨g, 0, none⟩), .int .i64 k] w (TkPost (fun w' => RY Bd w' g) g w l false k) := by
  obtain ⟨A, n, c, a, F, hb, ⟨han, hBd⟩, hbs0, hn1, hF⟩ := h
  have hbs := hbs0.more hBd
  have hc0 := hb.cell 0
  have hc1 := hb.cell 1
  have hc2 := hb.cell 2
  have hn := hbs.len
  have hll : l.length = n - a := by rw [hF, List.length_drop, hn]
  have hwr : IntKind.i64.wrap ((n : Int) - a) = (n : Int) - a := IntWalk.i64_in _ ⟨by omega, by omega⟩
  have hk0 : (0 : Int) ≤ k := by omega
  have hk1 : (k : Int) ≤ (n : Int) - a := by omega
  have HF := Lib.hid hF
  have HN := Lib.hid hn
  clear hF hn
  have hd : decide ((k : Int) < 0) = false := decide_eq_false (by omega)
  go_enter Tryd.func116, Tryd.ntmps116
  go_wp2_with fail
  go_quiet (fail)
  go_wp2_with fail
  go_loopw [5, 6] (fun o i wr => ∃ (j : Nat) (A1 : Option Addr) (n1 c1 : Nat), j ≤ k ∧ i = .int .i64 j ∧ o = .slice A1 n1 c1 ∧ OB wr 5 w.heap.size A1 n1 c1 (l.take j) ∧ Below w.heap.size w wr) (fun _ i _ => k - (intOf i).toNat)
  case atStart => exact ⟨0, none, 0, 0, by omega, rfl, rfl, OB.nil_, below_drewN (Below.refl _ _) _⟩
  case round =>
    obtain ⟨j, A1, n1, c1, hj, rfl, rfl, o1, b1⟩ := hrel
    have hb1 := hb.below b1 hb.lt
    have e0 := hb1.cell 0
    have e1 := hb1.cell 1
    by_cases hlt : j < k
    · obtain ⟨b, off, rfl, hbw, hcw⟩ := hbs.form (k := a + j) (by omega)
      have hc := (b1.cell (p := ⟨b, off + (a + j), none⟩) hbw).trans hcw
      clear hcw
      have hv := lb_lt F (a + j)
      have hlb : lb F (a + j) = lb l j := by rw [HF.out]; simp [lb]
      rw [hlb] at hv hc
      have HU := Lib.hid (show l.take (j + 1) = l.take j ++ [ub (lb l j : Int)] by
        rw [List.take_succ_eq_append_getElem (by omega), lb_eq l j (by omega), ub_of])
      obtain ⟨v, hvv⟩ : ∃ v, lb l j = v := ⟨_, rfl⟩
      rw [hvv] at hc hv HU
      clear hvv hlb
      have hw1 : IntKind.i64.wrap ((a : Int) + j) = (a : Int) + j := IntWalk.i64_in _ ⟨by omega, by omega⟩
      have hb0 : (0 : Int) ≤ (a : Int) + j := by omega
      have hb2 : (a : Int) + j < n := by omega
      have htn : ((a : Int) + j).toNat = a + j := by omega
      have hgl := hb.lt
      have hs1 := b1.size
      have hL := Lib.hid (show (l.take j).length + 1 ≤ 140737488355328 by rw [List.length_take]; omega)
      go_wp2_with fail
      go_region_held3 (fun w' => Below w.heap.size w w' ∧ w'.cell? ⟨g, 0, none⟩ = some (.slice (some ⟨b, off, none⟩) n c) ∧ w'.cell? ⟨g, 1, none⟩ = some (.int .i64 a) ∧ w'.cell? ⟨b, off + (a + j), none⟩ = some (.int .u8 (v : Int)))
        (first | (with_reducible apply keep3 hgl hgl hbw <;> with_reducible assumption) | ((repeat' apply And.intro) <;> first | (with_reducible exact Below.drew (by assumption)) | (with_reducible exact ((Below.alloc (by assumption) (Below.size (by assumption)) _)).drew) | go_keep))
        ((refine step_app rfl (.tmp 36) (.tmp 49) _ (by rfl) 5 Tryd.underlying40 u8info w.heap.size A1 n1 c1 _ (by rfl) (by first | exact (o1.alloc _).drew | exact o1.drew.alloc _) (wr.heap.size + 1) (some ⟨wr.heap.size, 0, none⟩) 1 1 [ub (v : Int)] (by rfl) (BS.one wr _ (v : Int) (by omega) (by omega)) hL.out (by simp; omega) ?_; intro A2 n2 c2 w2 o2 b2 g2))
      go_wp2_with fail
      go_roundw
      case rel => exact ⟨j + 1, A2, n2, c2, by omega, by go_num, rfl, by rw [HU.out]; exact o2, And.left (by with_reducible assumption)⟩
      case measure => simp [intOf]; omega
    · have hj' : j = k := by omega
      have hf1 := hb1.frozen 1
      have hw1 : IntKind.i64.wrap ((a : Int) + k) = (a : Int) + k := IntWalk.i64_in _ ⟨by omega, by omega⟩
      go_wp2_with fail
      go_ret
      subst hj'
      have hor : ¬ (false = true ∨ (j : Int) < 0 ∨ (l.length : Int) < j) := by simp; omega
      have hg := only_setCell (World.grownBy.refl wr (some g)) (p := ⟨g, 1, none⟩) (.inl rfl) (.int .i64 ((a : Int) + j))
      refine ⟨A1, n1, c1, rfl, ?_, ?_, only_setCell (only_of_below b1 _) (.inl rfl) _⟩
      · rw [tkOut, if_neg hor, Int.toNat_natCast]
        exact o1.grownAt hg hb.lt
      · refine ⟨A, n, c, a + j, F, ?_, ⟨by omega, Nat.le_trans (Nat.le_trans hBd b1.size) hg.size⟩, (hbs0.below (b1.mono hBd)).grownAtB (Nat.le_trans hBd b1.size) hg ((hbs0.below (b1.mono hBd)).apart hb1 rx_no), hn1, ?_⟩
        · have := hb1.set_ 1 (.int .i64 ((a : Int) + j))
          rw [tkShort, decide_eq_false hor]
          simpa using this
        · rw [tkLeft, if_neg hor, Int.toNat_natCast, HF.out, List.drop_drop]
theorem ryTake {Bd : Nat} (g : Nat) (l : List UInt8) (s : Bool) (k : Int) (w : World) (h : RY Bd w g l s) :
    Calls Tryd.prog 116 #[.pointer (some ⟨g, 0, none⟩), .int .i64 k] w (TkPost (fun w' => RY Bd w' g) g w l s k) := by
  by_cases hk : k < 0 ∨ (l.length : Int) < k
  · exact ryTake_bad g l s k w h hk
  · obtain ⟨m, rfl⟩ := Int.eq_ofNat_of_zero_le (show 0 ≤ k by omega)
    cases s
    · exact ryTake_ok g l m w h (by omega)
    · exact ryTake_was g l m w h (by omega)
set_option maxHeartbeats 1000000 in
set_option maxRecDepth 100000 in
theorem ryNum {Bd : Nat} (g : Nat) (l : List UInt8) (s : Bool) (k : Nat) (w : World) (h : RY Bd w g l s) (hk : k ≤ 4) :
    Calls Tryd.prog 85 #[.pointer (some ⟨g, 0, none⟩), .int .i64 k] w fun en w' => en = .returned (.int .i64 (numL (tkOut l s k))) ∧ RY Bd w' g (tkLeft l s k) (tkShort l s k) ∧ w.grownBy w' (some g) := by
  have hL := tkOut_len l s k
  go_enter Tryd.func85, Tryd.ntmps85
  go_wp2_with fail
  refine (ryTake g l s k _ h).mono ?_
  rintro _ w1 ⟨A1, n1, c1, rfl, o1, r1, g1⟩
  obtain ⟨L, HL⟩ : ∃ L, tkOut l s k = L := ⟨_, rfl⟩
  rw [HL] at o1 hL
  have HL' := Lib.hid HL
  clear HL
  have hn1 := o1.1
  go_wp2_with fail
  go_loop [5, 7] (fun x i => ∃ j : Nat, j ≤ n1 ∧ x = .int .i64 (numL (L.take j)) ∧ i = .int .i64 j) (fun _ i => n1 - (intOf i).toNat)
  case atStart => exact ⟨0, by omega, rfl, rfl⟩
  case round =>
    obtain ⟨j, hj, rfl, rfl⟩ := hrel
    by_cases hlt : j < n1
    · obtain ⟨b, off, rfl, hbw, hcw⟩ := o1.bs.form hlt
      have hs := numL_succ L j (by omega)
      have hb := numL_lt L j (by omega)
      have hv := lb_lt L j
      have hpow : 256 ^ j ≤ 256 ^ 3 := Nat.pow_le_pow_right (by omega) (by omega)
      obtain ⟨v, hvv⟩ : ∃ v, lb L j = v := ⟨_, rfl⟩
      obtain ⟨x, hxx⟩ : ∃ x, numL (L.take j) = x := ⟨_, rfl⟩
      rw [hvv] at hcw hv hs
      rw [hxx] at hb hs
      have hx : x < 16777216 := by
        have : (256 : Nat) ^ 3 = 16777216 := by decide
        omega
      clear hb hpow
      have HS := Lib.hid hs
      clear hs
      go_wp2_with fail
      go_round
      case rel =>
        refine ⟨j + 1, by omega, ?_, by go_num⟩
        rw [HS.out]
        go_num
      case measure => simp [intOf]; omega
    · have hj' : j = n1 := by omega
      go_wp2_with fail
      go_ret
      refine ⟨?_, r1, g1⟩
      rw [HL'.out]
      rfl
theorem ryLeft {Bd : Nat} (g : Nat) (l : List UInt8) (s : Bool) (w : World) (h : RY Bd w g l s) :
    Calls Tryd.prog 84 #[.pointer (some ⟨g, 0, none⟩)] w fun en w' => en = .returned (.int .i64 (if s then 0 else l.length : Nat)) ∧ ∃ q, w' = w.drewN q := refLeft g l s w h.rx
end Go.Proofs.YtlpkngjeihoknaaDoor
