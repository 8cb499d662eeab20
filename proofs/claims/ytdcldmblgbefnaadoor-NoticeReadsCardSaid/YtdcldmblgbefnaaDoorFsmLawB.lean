/- The walks of two laws of layer 21. -/
import Derived.Test.YtdcldmblgbefnaaDoorProg
import Derived.WalkKit
import Derived.WalkSpells
import Derived.WalkLawsBesides
import Derived.Outline
import Derived.Deep.QuietTactic
import Derived.BigQuiet
import Derived.Handy
import Derived.Lib.Hide
import Derived.Test.YtdcldmblgbefnaaDoorFsmLaw
import Derived.Deep.RegionHeld3
import Derived.Deep.DeepFit
namespace Go.Proofs.YtdcldmblgbefnaaDoor
open Go.RowKit
theorem fsmFault_form (e a b : Int) (A : Option Addr) (n c : Nat) (l : List UInt8) (w : World) (h : BS w w.heap.size A n l) :
    ∃ (a' b' : Int) (A' : Option Addr) (n' c' : Nat) (l' : List UInt8), fsmFault e (.agg #[.int .i64 a, .int .i64 b, .slice A n c]) = .agg #[.int .i64 a', .int .i64 b', .slice A' n' c'] ∧ BS w w.heap.size A' n' l' := by
  have hf : ∀ x y : Int, ∃ (a' b' : Int) (A' : Option Addr) (n' c' : Nat) (l' : List UInt8), flt x y = .agg #[.int .i64 a', .int .i64 b', .slice A' n' c'] ∧ BS w w.heap.size A' n' l' := fun x y => ⟨x, y, none, 0, 0, [], rfl, BS.none_⟩
  unfold fsmFault
  repeat' split
  · exact ⟨a, b, A, n, c, l, rfl, h⟩
  all_goals exact hf _ _
theorem BSof {w W : World} {A : Option Addr} {n : Nat} {l : List UInt8} {R : Prop} (h : BS w w.heap.size A n l) (hS : Below w.heap.size w W ∧ w.heap.size < W.heap.size ∧ R) : BS W W.heap.size A n l := (h.below hS.1).more (by omega)
/-- A boxed fault, kept behind a call. -/
theorem keepF {w W W' : World} {x y z : Value} (hb : Below W.heap.size W W') (h : Below w.heap.size w W ∧ w.heap.size < W.heap.size ∧ W.cell? ⟨w.heap.size, 0, none⟩ = some x ∧ W.cell? ⟨w.heap.size, 1, none⟩ = some y ∧ W.cell? ⟨w.heap.size, 2, none⟩ = some z) :
    Below w.heap.size w W' ∧ w.heap.size < W'.heap.size ∧ W'.cell? ⟨w.heap.size, 0, none⟩ = some x ∧ W'.cell? ⟨w.heap.size, 1, none⟩ = some y ∧ W'.cell? ⟨w.heap.size, 2, none⟩ = some z :=
  ⟨h.1.trans (hb.mono h.1.size), by have := hb.size; omega, (hb.cell (p := ⟨w.heap.size, 0, none⟩) h.2.1).trans h.2.2.1, (hb.cell (p := ⟨w.heap.size, 1, none⟩) h.2.1).trans h.2.2.2.1, (hb.cell (p := ⟨w.heap.size, 2, none⟩) h.2.1).trans h.2.2.2.2⟩
set_option maxHeartbeats 1000000 in
set_option maxRecDepth 100000 in
theorem lawFsmFaults (e a b : Int) (A : Option Addr) (n c : Nat) (l : List UInt8) (w : World) (ht : FsmTab w) (h : BS w w.heap.size A n l) (hlen : n ≤ 500) :
    Calls Tryd.prog 4 #[.int .i64 e, .agg #[.int .i64 a, .int .i64 b, .slice A n c]] w fun en w' => en = .returned (.bool true) ∧ Below w.heap.size w w' := by
  obtain ⟨a', b', A', n', c', l', hv, h'⟩ := fsmFault_form e a b A n c l w h
  have hl5 : (n : Int) ≤ 500 := by omega
  have Hv := Lib.hid hv
  clear hv
  go_enter Tryd.func4, Tryd.ntmps4
  go_wp2_with fail
  go_region_held3 (fun w' => Below w.heap.size w w' ∧ w.heap.size < w'.heap.size ∧ w'.cell? ⟨w.heap.size, 0, none⟩ = some (.int .i64 a) ∧ w'.cell? ⟨w.heap.size, 1, none⟩ = some (.int .i64 b) ∧ w'.cell? ⟨w.heap.size, 2, none⟩ = some (.slice A n c))
    (first | (with_reducible apply keepF <;> with_reducible assumption) | ((repeat' apply And.intro) <;> first | (with_reducible exact ((Below.refl _ _).alloc (Nat.le_refl _) _).drew) | go_keep))
    (first
      | (go_at_call 29; refine (fsmFault_any e a b A n c _).mono ?_; rw [Hv.out]; rintro _ w1 ⟨rfl, hb1⟩)
      | (go_at_call 30; refine (refFault_any e a b A n c _).mono ?_; rw [Hv.out]; rintro _ w2 ⟨rfl, hb2⟩)
      | (go_at_call 28; refine (sameFault_any a' b' a' b' A' A' n' c' n' c' l' l' _ (BSof h' (by with_reducible assumption)) (BSof h' (by with_reducible assumption))).mono ?_; simp only [beq_self_eq_true, Bool.and_self]; rintro _ w3 ⟨rfl, hb3⟩)
      | (go_at_call 27; refine (awake21 _ (ht.below (And.left (by with_reducible assumption)))).mono ?_; rintro _ w4 ⟨rfl, hb4⟩))
  go_wp2_with fail
  go_ret
  exact ⟨rfl, And.left (by with_reducible assumption)⟩
set_option maxHeartbeats 1000000 in
set_option maxRecDepth 100000 in
theorem lawFsmFaults_big (e a b : Int) (A : Option Addr) (n c : Nat) (w : World) (ht : FsmTab w) (hlen : 500 < n) :
    Calls Tryd.prog 4 #[.int .i64 e, .agg #[.int .i64 a, .int .i64 b, .slice A n c]] w fun en w' => en = .returned (.bool true) ∧ Below w.heap.size w w' := by
  have hl5 : 500 < (n : Int) := by omega
  have hb0 := (Below.refl w.heap.size w).alloc (Nat.le_refl _) (.cells #[.int .i64 a, .int .i64 b, .slice A n c] 29)
  go_enter Tryd.func4, Tryd.ntmps4
  go_wp2_with fail
  refine (awake21 _ (ht.below hb0)).mono ?_
  rintro _ w1 ⟨rfl, hb1⟩
  go_wp2_with fail
  go_ret
  exact ⟨rfl, hb0.trans (hb1.mono hb0.size)⟩
theorem lawFsmFaults' (w : World) (e : Int) (_ : (Lit.int .i64 e).wf = true) (a b : Int) (A : Option Addr) (n c : Nat) (l : List UInt8) (_ : (Lit.int .i64 a).wf = true) (_ : (Lit.int .i64 b).wf = true) (h : BS w w.heap.size A n l) (_ : n ≤ c) (_ : c ≤ maxLen) (ht : FsmTab w) :
    Calls Tryd.prog 4 #[.int .i64 e, .agg #[.int .i64 a, .int .i64 b, .slice A n c]] w fun en w' => en = .returned (.bool true) ∧ Below w.heap.size w w' := by
  rcases Nat.lt_or_ge 500 n with hl | hl
  · exact lawFsmFaults_big e a b A n c w ht hl
  · exact lawFsmFaults e a b A n c l w ht h hl
/-- The table's rows keep the rule of falls, rises and notices. -/
theorem falls_all : ∀ s : Fin 6, ∀ e : Fin 16, (bits .and .i64 ((fsmCell s e).2 : Int) 64 != 0) = (s.val == 5 && (fsmCell s e).1 != 5) ∧ (bits .and .i64 ((fsmCell s e).2 : Int) 32 != 0) = (s.val != 5 && (fsmCell s e).1 == 5) ∧
    ((bits .and .i64 ((fsmCell s e).2 : Int) 16 != 0) = true → (bits .and .i64 ((fsmCell s e).2 : Int) 2 == 0) = false ∧ (fsmCell s e).1 = 0) := by decide +kernel
theorem falls_say (k m : Nat) (hk : k < 6) (hm : m < 16) : ∃ T D : Int, fsmTo k m = T ∧ fsmDo k m = D ∧ (bits .and .i64 D 64 != 0) = ((k : Int) == 5 && T != 5) ∧ (bits .and .i64 D 32 != 0) = ((k : Int) != 5 && T == 5) ∧
    ((bits .and .i64 D 16 != 0) = true → (bits .and .i64 D 2 == 0) = false ∧ T = 0) := by
  obtain ⟨h1, h2, h3⟩ := falls_all ⟨k, hk⟩ ⟨m, hm⟩
  simp only at h1 h2 h3
  refine ⟨_, _, fsmTo_in k m hk hm, fsmDo_in k m hk hm, ?_, ?_, fun h => ⟨(h3 h).1, by rw [(h3 h).2]; rfl⟩⟩
  · rw [h1]
    have e1 : ((k : Int) == 5) = (k == 5) := by rw [Bool.eq_iff_iff]; simp; omega
    have e2 : (((fsmCell k m).1 : Int) != 5) = ((fsmCell k m).1 != 5) := by rw [Bool.eq_iff_iff]; simp; omega
    rw [e1, e2]
  · rw [h2]
    have e1 : ((k : Int) != 5) = (k != 5) := by rw [Bool.eq_iff_iff]; simp; omega
    have e2 : (((fsmCell k m).1 : Int) == 5) = ((fsmCell k m).1 == 5) := by rw [Bool.eq_iff_iff]; simp; omega
    rw [e1, e2]
theorem falls_bools (k m : Nat) (hk : k < 6) (hm : m < 16) : ∃ T D : Int, fsmTo k m = T ∧ fsmDo k m = D ∧ ∃ b64 b32 b16 b2 k5 t5 t0 : Bool,
    (bits .and .i64 D 64 != 0) = b64 ∧ (bits .and .i64 D 32 != 0) = b32 ∧ (bits .and .i64 D 16 != 0) = b16 ∧ (bits .and .i64 D 2 == 0) = b2 ∧ ((k : Int) == 5) = k5 ∧ ((k : Int) != 5) = !k5 ∧ (T == 5) = t5 ∧ (T != 5) = !t5 ∧ (T != 0) = !t0 ∧
    b64 = (k5 && !t5) ∧ b32 = (!k5 && t5) ∧ (b16 = true → b2 = false ∧ t0 = true) := by
  obtain ⟨T, D, hT, hD, h1, h2, h3⟩ := falls_say k m hk hm
  refine ⟨T, D, hT, hD, _, _, _, _, _, _, (T == 0), rfl, rfl, rfl, rfl, rfl, rfl, rfl, rfl, rfl, h1, h2, fun h => ⟨(h3 h).1, by rw [(h3 h).2]; rfl⟩⟩
set_option maxHeartbeats 4000000 in
set_option maxRecDepth 100000 in
theorem lawFsmFalls (w : World) (ht : FsmTab w) : Calls Tryd.prog 5 #[] w fun en w' => en = .returned (.bool true) ∧ Below w.heap.size w w' := by
  go_enter Tryd.func5, Tryd.ntmps5
  go_wp2_with fail
  go_loopw [1] (fun s wr => ∃ k : Nat, k ≤ 6 ∧ s = .int .i64 k ∧ Below w.heap.size w wr) (fun s _ => 6 - (intOf s).toNat)
  case atStart => exact ⟨0, by omega, rfl, Below.refl _ _⟩
  case round =>
    obtain ⟨k, hk, rfl, hb⟩ := hrel
    obtain ⟨wo, rfl⟩ : ∃ wo : World, wo = wr := ⟨_, rfl⟩
    by_cases hlt : k < 6
    · have hdk : decide ((k : Int) < 6) = true := by simp; omega
      go_wp2_with fail
      go_loopw [2] (fun s wr => ∃ m : Nat, m ≤ 16 ∧ s = .int .i64 m ∧ Below w.heap.size w wr) (fun s _ => 16 - (intOf s).toNat)
      case atStart => exact ⟨0, by omega, rfl, hb⟩
      case round =>
        obtain ⟨m, hm, rfl, hbr⟩ := hrel
        by_cases hmt : m < 16
        · obtain ⟨T, D, hT, hD, b64, b32, b16, b2, k5, t5, t0, f64, f32, f16, f2, fk, fk', f5, f5', f0, g1, g2, g3⟩ := falls_bools k m hlt hmt
          have HT := Lib.hid hT
          have HD := Lib.hid hD
          clear hT hD
          go_wp2_with fail
          refine (fsmStep k m _ (ht.below hbr)).mono ?_
          rw [HT.out, HD.out]
          rintro _ w1 ⟨rfl, hb1⟩
          have hbn : Below w.heap.size w w1 := hbr.trans (hb1.mono hbr.size)
          cases k5 <;> cases t5 <;> cases b16
          all_goals simp only [Bool.not_false, Bool.not_true, Bool.and_true, Bool.and_false] at fk' f5' g1 g2
          all_goals subst g1 g2
          all_goals first | (obtain ⟨rfl, rfl⟩ := g3 rfl; simp only [Bool.not_true] at f0) | clear g3
          all_goals
            go_wp2_with fail
            go_roundw
            case rel => exact ⟨m + 1, by omega, by go_num, hbn⟩
            case measure => simp [intOf]; omega
        · go_wp2_with fail
          go_roundw
          case rel => exact ⟨k + 1, by omega, by go_num, hbr⟩
          case measure => simp [intOf]; omega
    · go_wp2_with fail
      refine (awake21 _ (ht.below hb)).mono ?_
      rintro _ w1 ⟨rfl, hb1⟩
      go_wp2_with fail
      go_ret
      exact ⟨rfl, hb.trans (hb1.mono hb.size)⟩
end Go.Proofs.YtdcldmblgbefnaaDoor
