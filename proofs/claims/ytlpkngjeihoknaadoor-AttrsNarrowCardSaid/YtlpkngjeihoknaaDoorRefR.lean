/- Walks of the document's reader (speculumref01.R). Conditions: none but sizes. -/
import Derived.Test.YtlpkngjeihoknaaDoorProg
import Derived.WalkKit
import Derived.WalkSpells
import Derived.WalkLawsBesides
import Derived.Outline
import Derived.Deep.QuietTactic
import Derived.BigQuiet
import Derived.Handy
import Derived.Lib.Hide
import Derived.Deep.RegionHeld3
import Derived.Test.YtlpkngjeihoknaaDoorReaderB
namespace Go.Proofs.YtlpkngjeihoknaaDoor
open Go.RowKit
theorem keep3 {w W W' : World} {x y z : Value} {p q r : Addr} (hp : p.block < w.heap.size) (hq : q.block < w.heap.size) (hr : r.block < w.heap.size) (hb : Below w.heap.size W W') (h : Below w.heap.size w W ∧ W.cell? p = some x ∧ W.cell? q = some y ∧ W.cell? r = some z) :
    Below w.heap.size w W' ∧ W'.cell? p = some x ∧ W'.cell? q = some y ∧ W'.cell? r = some z :=
  ⟨h.1.trans hb, (hb.cell hp).trans h.2.1, (hb.cell hq).trans h.2.2.1, (hb.cell hr).trans h.2.2.2⟩
/-- The document's reader: all bytes F, the place. -/
def RX (w : World) (g : Nat) (l : List UInt8) (s : Bool) : Prop := ∃ (A : Option Addr) (n c a : Nat) (F : List UInt8), Blk w g 95 #[.slice A n c, .int .i64 a, .bool s] ∧ a ≤ n ∧ BS w w.heap.size A n F ∧ n ≤ 100000 ∧ l = F.drop a
theorem RX.lt {w : World} {g : Nat} {l : List UInt8} {s : Bool} (h : RX w g l s) : g < w.heap.size := by
  obtain ⟨_, _, _, _, _, hb, _⟩ := h; exact hb.lt
theorem rx_no {A : Option Addr} {n c a : Nat} {s : Bool} : ∀ (i : Nat) (v : Int), (#[Value.slice A n c, Value.int .i64 a, Value.bool s] : Array Value)[i]? ≠ some (Value.int .u8 v) := by
  intro i v
  rcases i with _ | _ | _ | i
  · simp
  · simp
  · simp
  · simp
set_option maxHeartbeats 1000000 in
set_option maxRecDepth 100000 in
theorem refTake_bad (g : Nat) (l : List UInt8) (s : Bool) (k : Int) (w : World) (h : RX w g l s) (hk : k < 0 ∨ (l.length : Int) < k) :
    Calls Tryd.prog 116 #[.pointer (some ⟨g, 0, none⟩), .int .i64 k] w (TkPost (fun w' => RX w' g) g w l s k) := by
  obtain ⟨A, n, c, a, F, hb, han, hbs, hn1, hF⟩ := h
  have hc0 := hb.cell 0
  have hc1 := hb.cell 1
  have hc2 := hb.cell 2
  have hf2 := hb.frozen 2
  have hn := hbs.len
  have hll : l.length = n - a := by rw [hF, List.length_drop, hn]
  have HE := Lib.hid (show ∀ q, TkPost (fun w' => RX w' g) g w l s k (.returned (.slice none 0 0)) ((w.drewN q).setCell ⟨g, 2, none⟩ (.bool true)) from by
    intro q
    have hor : s = true ∨ k < 0 ∨ (l.length : Int) < k := .inr hk
    have hg : w.grownBy ((w.drewN q).setCell ⟨g, 2, none⟩ (.bool true)) (some g) := only_setCell (only_of_below (below_drewN (Below.refl _ _) q) _) (p := ⟨g, 2, none⟩) (.inl rfl) (.bool true)
    refine ⟨none, 0, 0, rfl, by rw [tkOut, if_pos hor]; exact OB.nil_, ?_, hg⟩
    refine ⟨A, n, c, a, F, ?_, han, hbs.grownAt hg (hbs.apart hb rx_no), hn1, by rw [tkLeft, if_pos hor]; exact hF⟩
    have := (hb.drewN q).set_ 2 (.bool true)
    rw [tkShort, decide_eq_true hor]
    simpa using this)
  have hwr : IntKind.i64.wrap ((n : Int) - a) = (n : Int) - a := IntWalk.i64_in _ ⟨by omega, by omega⟩
  clear hF hn
  by_cases hk0 : k < 0
  · have hd : decide (k < 0) = true := decide_eq_true hk0
    go_enter Tryd.func116, Tryd.ntmps116
    go_wp2_with fail
    go_quiet (fail)
    go_wp2_with fail
    go_ret
    exact HE.out _
  · have hd : decide (k < 0) = false := decide_eq_false hk0
    have hk1 : (n : Int) - a < k := by omega
    go_enter Tryd.func116, Tryd.ntmps116
    go_wp2_with fail
    go_quiet (fail)
    go_wp2_with fail
    go_ret
    exact HE.out _
set_option maxHeartbeats 1000000 in
set_option maxRecDepth 100000 in
theorem refTake_was (g : Nat) (l : List UInt8) (k : Nat) (w : World) (h : RX w g l true) (hk : k ≤ l.length) :
    Calls Tryd.prog 116 #[.pointer (some ⟨g, 0, none⟩), .int .i64 k] w (TkPost (fun w' => RX w' g) g w l true k) := by
  have HX := Lib.hid h
  obtain ⟨A, n, c, a, F, hb, han, hbs, hn1, hF⟩ := h
  have hc0 := hb.cell 0
  have hc1 := hb.cell 1
  have hc2 := hb.cell 2
  have hn := hbs.len
  have hll : l.length = n - a := by rw [hF, List.length_drop, hn]
  have hwr : IntKind.i64.wrap ((n : Int) - a) = (n : Int) - a := IntWalk.i64_in _ ⟨by omega, by omega⟩
  have hk0 : (0 : Int) ≤ k := by omega
  have hk1 : (k : Int) ≤ (n : Int) - a := by omega
  clear hF hn
  have hd : decide ((k : Int) < 0) = false := decide_eq_false (by omega)
  go_enter Tryd.func116, Tryd.ntmps116
  go_wp2_with fail
  go_quiet (fail)
  go_wp2_with fail
  go_ret
  refine ⟨none, 0, 0, rfl, by simpa [tkOut] using OB.nil_, ?_, only_of_below (below_drewN (Below.refl _ _) _) _⟩
  have hx : RX (w.drewN nq) g l true := HX.out
  simpa [tkLeft, tkShort] using hx
set_option maxHeartbeats 1000000 in
set_option maxRecDepth 100000 in
theorem refTake_ok (g : Nat) (l : List UInt8) (k : Nat) (w : World) (h : RX w g l false) (hk : k ≤ l.length) :
    Calls Tryd.prog 116 #[.pointer (some ⟨g, 0, none⟩), .int .i64 k] w (TkPost (fun w' => RX w' g) g w l false k) := by
  obtain ⟨A, n, c, a, F, hb, han, hbs, hn1, hF⟩ := h
  have hc0 := hb.cell 0
  have hc1 := hb.cell 1
  have hc2 := hb.cell 2
  have hn := hbs.len
  have hll : l.length = n - a := by rw [hF, List.length_drop, hn]
  have hwr : IntKind.i64.wrap ((n : Int) - a) = (n : Int) - a := IntWalk.i64_in _ ⟨by omega, by omega⟩
  have hk0 : (0 : Int) ≤ k := by omega
  have hk1 : (k : Int) ≤ (n : Int) - a := by omega
  have HF := Lib.hid hF
  have HN := Lib.hid hn
  clear hF hn
  have hd : decide ((k : Int) < 0) = false := decide_eq_false (by omega)
  go_enter Tryd.func116, Tryd.ntmps116
  go_wp2_with fail
  go_quiet (fail)
  go_wp2_with fail
  go_loopw [5, 6] (fun o i wr => ∃ (j : Nat) (A1 : Option Addr) (n1 c1 : Nat), j ≤ k ∧ i = .int .i64 j ∧ o = .slice A1 n1 c1 ∧ OB wr 5 w.heap.size A1 n1 c1 (l.take j) ∧ Below w.heap.size w wr) (fun _ i _ => k - (intOf i).toNat)
  case atStart => exact ⟨0, none, 0, 0, by omega, rfl, rfl, OB.nil_, below_drewN (Below.refl _ _) _⟩
  case round =>
    obtain ⟨j, A1, n1, c1, hj, rfl, rfl, o1, b1⟩ := hrel
    have hb1 := hb.below b1 hb.lt
    have e0 := hb1.cell 0
    have e1 := hb1.cell 1
    by_cases hlt : j < k
    · obtain ⟨b, off, rfl, hbw, hcw⟩ := hbs.form (k := a + j) (by omega)
      have hc := (b1.cell (p := ⟨b, off + (a + j), none⟩) hbw).trans hcw
      clear hcw
      have hv := lb_lt F (a + j)
      have hlb : lb F (a + j) = lb l j := by rw [HF.out]; simp [lb]
      rw [hlb] at hv hc
      have HU := Lib.hid (show l.take (j + 1) = l.take j ++ [ub (lb l j : Int)] by
        rw [List.take_succ_eq_append_getElem (by omega), lb_eq l j (by omega), ub_of])
      obtain ⟨v, hvv⟩ : ∃ v, lb l j = v := ⟨_, rfl⟩
      rw [hvv] at hc hv HU
      clear hvv hlb
      have hw1 : IntKind.i64.wrap ((a : Int) + j) = (a : Int) + j := IntWalk.i64_in _ ⟨by omega, by omega⟩
      have hb0 : (0 : Int) ≤ (a : Int) + j := by omega
      have hb2 : (a : Int) + j < n := by omega
      have htn : ((a : Int) + j).toNat = a + j := by omega
      have hgl := hb.lt
      have hs1 := b1.size
      have hL := Lib.hid (show (l.take j).length + 1 ≤ 140737488355328 by rw [List.length_take]; omega)
      go_wp2_with fail
      go_region_held3 (fun w' => Below w.heap.size w w' ∧ w'.cell? ⟨g, 0, none⟩ = some (.slice (some ⟨b, off, none⟩) n c) ∧ w'.cell? ⟨g, 1, none⟩ = some (.int .i64 a) ∧ w'.cell? ⟨b, off + (a + j), none⟩ = some (.int .u8 (v : Int)))
        (first | (with_reducible apply keep3 hgl hgl hbw <;> with_reducible assumption) | ((repeat' apply And.intro) <;> first | (with_reducible exact Below.drew (by assumption)) | (with_reducible exact ((Below.alloc (by assumption) (Below.size (by assumption)) _)).drew) | go_keep))
        ((refine step_app rfl (.tmp 36) (.tmp 49) _ (by rfl) 5 Tryd.underlying40 u8info w.heap.size A1 n1 c1 _ (by rfl) (by first | exact (o1.alloc _).drew | exact o1.drew.alloc _) (wr.heap.size + 1) (some ⟨wr.heap.size, 0, none⟩) 1 1 [ub (v : Int)] (by rfl) (BS.one wr _ (v : Int) (by omega) (by omega)) hL.out (by simp; omega) ?_; intro A2 n2 c2 w2 o2 b2 g2))
      go_wp2_with fail
      go_roundw
      case rel => exact ⟨j + 1, A2, n2, c2, by omega, by go_num, rfl, by rw [HU.out]; exact o2, And.left (by with_reducible assumption)⟩
      case measure => simp [intOf]; omega
    · have hj' : j = k := by omega
      have hf1 := hb1.frozen 1
      have hw1 : IntKind.i64.wrap ((a : Int) + k) = (a : Int) + k := IntWalk.i64_in _ ⟨by omega, by omega⟩
      go_wp2_with fail
      go_ret
      subst hj'
      have hor : ¬ (false = true ∨ (j : Int) < 0 ∨ (l.length : Int) < j) := by simp; omega
      have hg := only_setCell (World.grownBy.refl wr (some g)) (p := ⟨g, 1, none⟩) (.inl rfl) (.int .i64 ((a : Int) + j))
      refine ⟨A1, n1, c1, rfl, ?_, ?_, only_setCell (only_of_below b1 _) (.inl rfl) _⟩
      · rw [tkOut, if_neg hor, Int.toNat_natCast]
        exact o1.grownAt hg hb.lt
      · refine ⟨A, n, c, a + j, F, ?_, by omega, (hbs.call b1).grownAt hg ((hbs.call b1).apart hb1 rx_no), hn1, ?_⟩
        · have := hb1.set_ 1 (.int .i64 ((a : Int) + j))
          rw [tkShort, decide_eq_false hor]
          simpa using this
        · rw [tkLeft, if_neg hor, Int.toNat_natCast, HF.out, List.drop_drop]
theorem refTake (g : Nat) (l : List UInt8) (s : Bool) (k : Int) (w : World) (h : RX w g l s) :
    Calls Tryd.prog 116 #[.pointer (some ⟨g, 0, none⟩), .int .i64 k] w (TkPost (fun w' => RX w' g) g w l s k) := by
  by_cases hk : k < 0 ∨ (l.length : Int) < k
  · exact refTake_bad g l s k w h hk
  · obtain ⟨m, rfl⟩ := Int.eq_ofNat_of_zero_le (show 0 ≤ k by omega)
    cases s
    · exact refTake_ok g l m w h (by omega)
    · exact refTake_was g l m w h (by omega)
end Go.Proofs.YtlpkngjeihoknaaDoor
